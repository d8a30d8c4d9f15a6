/- Part 6 of a proof: Wn, CodeWG, Wo, Wp, Wt, Wu, Wv, CodeT, Rt, Wx, Tc, Td, Lift, Gs0, OpenS. -/
import Derived.Test.YtlodpljdhdhfmaaGreatD5
import Derived.Test.YtlodpljdhdhfmaaGreatD3
import Derived.ChangeSame
import Derived.JoinedOf
import Derived.JoinedAt
import Derived.RowKit3
import Derived.ReadAgain
import Derived.RowKit2
import Derived.ChangeSlices
import Derived.OpenShut
set_option linter.unusedSimpArgs false
set_option linter.unusedVariables false
/- Wire, XIV: slices.SortFunc at lists of integers. -/
namespace Go.Proofs.YtlodpljdhdhfmaaGreat
open Go.RowKit Go.Sort Go.Shelf
theorem sw_old {α : Type} [Inhabited α] (en : α → Value) (w : World) (b m : Nat) (dk : Array α) (os : Array Obj) : (∀ q, q < w.heap.size → q ≠ b → (sortWorld en w b 0 m dk os).heap[q]? = w.heap[q]?) ∧ w.heap.size ≤ (sortWorld en w b 0 m dk os).heap.size := by
  have hs : (putRow en (Sort.ahead w m) b 0 dk).heap.size = w.heap.size := by simp [putRow, mapBlock, Sort.ahead]
  refine ⟨fun q hq hne => ?_, ?_⟩
  · unfold sortWorld
    rw [heap_grow_old _ _ (by rw [hs]; exact hq)]
    simp [putRow, mapBlock, Sort.ahead, Array.getElem?_modify, Ne.symm hne]
  · unfold sortWorld grow
    simp [hs]
theorem sw_at {α : Type} [Inhabited α] (en : α → Value) (w : World) (b m : Nat) (dk : Array α) (os : Array Obj) {cur : Array Value} {t : TypeId} {fr : Nat × Nat} (hb : w.heap[b]? = some (.cells cur t fr)) : (sortWorld en w b 0 m dk os).heap[b]? = some (.cells (putCells en 0 dk cur) t fr) := by
  have hs : (putRow en (Sort.ahead w m) b 0 dk).heap.size = w.heap.size := by simp [putRow, mapBlock, Sort.ahead]
  have hlt : b < w.heap.size := (Array.getElem?_eq_some_iff.1 hb).1
  unfold sortWorld
  rw [heap_grow_old _ _ (by rw [hs]; exact hlt)]
  simp [putRow, mapBlock, Sort.ahead, Array.getElem?_modify, hb, onCells]
theorem permIn_list {α : Type} [Inhabited α] {d d' : Array α} (h : PermIn 0 d.size d d') : d'.toList.Perm d.toList := by
  obtain ⟨h1, _, h3⟩ := h
  have e1 : d'.extract 0 d.size = d' := by rw [← h1]; simp
  have e2 : d.extract 0 d.size = d := by simp
  rw [e1, e2] at h3
  exact h3
theorem sortedIn_list {α : Type} [Inhabited α] {lt : α → α → Bool} {d' : Array α} (h : SortedIn lt 0 d'.size d') : d'.toList.Pairwise fun x y => lt y x = false := by
  rw [List.pairwise_iff_getElem]
  intro i j hi hj hij
  have hi' : i < d'.size := by simpa using hi
  have hj' : j < d'.size := by simpa using hj
  have := h i j (Nat.zero_le _) hij hj'
  simpa [getElem!_pos, hi', hj'] using this
theorem mSortL (ls : List (List Int)) (hl : ls.length ≤ 1000000000) (hll : ∀ l ∈ ls, l.length ≤ 1000000000) : MC Tryz.prog 85 49 1 (ls.map rowL1) [.fn 86 [] []] (SortsL ls) (some (.tup [])) := fun w NA p v0 vs hna hnp hB ho1 hov hs hv => by
  match vs, hs with
  | ⟨[v1]⟩, _ =>
  have h1 := hv 0 _ v1 rfl rfl
  cases h1 with
  | fn _ _ _ vf vc a1 a2 =>
  have e1 : vf = #[] := Array.size_eq_zero_iff.1 a1
  have e2 : vc = #[] := Array.size_eq_zero_iff.1 a2
  subst e1; subst e2
  change Calls _ _ #[v0, .func (.func 86) #[] #[]] w _
  clear hv
  rw [List.length_map] at hov
  rcases hov with ⟨hp, h0, rfl⟩ | ⟨b, cap, cur, t', hp, rfl, hg, hsz, hcap, hmax⟩
  · have : ls = [] := List.length_eq_zero_iff.1 h0
    subst this
    refine Calls.mono (show Calls Tryz.prog 85 #[.slice none 0 0, .func (.func 86) #[] #[]] w _ from AnyF.slices_SortFunc_none (P := Tryz.prog) (ρ := Tryz.sortW_ren) { Tryz.sortW with } none 0 _ w) ?_
    rintro e w' ⟨rfl, rfl⟩
    exact ⟨_, [], rfl, ⟨[], rfl, .refl _, .nil⟩, rfl, hB, fun b cs t' hb hc => ⟨cs, hc, rfl⟩, ⟨rfl, rfl, rfl, Nat.le_refl _, fun _ _ _ => rfl⟩, .tup [] #[] rfl (fun i x v hx => by simp at hx)⟩
  · subst hp
    obtain ⟨N, hN⟩ : ∃ N, N = Mut NA (fun _ => some b) (one1 49 1 (ls.map rowL1)) := ⟨_, rfl⟩
    have hNb : N b := by rw [hN]; exact mut_one.2 (.inr rfl)
    rcases hB with ⟨g1, _⟩ | ⟨b', cs', cap', g1, g2, g3, g4, g5, g6, g7⟩
    · cases g1
    have e3 : b = b' := Option.some.inj g1
    subst e3
    rw [hg] at g2; cases g2
    rw [← hN] at g7
    have hcell : ∀ (j : Nat) (hj : j < ls.length), ∃ v, cur[j]? = some v ∧ RepC w N (slI ls[j]) v := fun j hj => by
      obtain ⟨v, k1, k2⟩ := g7 j (rowL1 ls[j]) 0 (slI ls[j]) (by simp [hj]) rfl
      exact ⟨v, by simpa using k1, k2⟩
    -- the elements, each with what it reads as
    obtain ⟨ok, hok⟩ : ∃ ok : Value × List Int → Prop, ok = fun x => RepC w N (slI x.2) x.1 ∧ x.2.length ≤ 1000000000 := ⟨_, rfl⟩
    obtain ⟨ps, hps⟩ : ∃ ps : List (Value × List Int), ps = (List.range ls.length).map fun j => (cur.getD j undef, ls.getD j []) := ⟨_, rfl⟩
    have hpl : ps.length = ls.length := by rw [hps]; simp
    have hpj : ∀ (j : Nat) (hj : j < ls.length), ps[j]? = some (cur.getD j undef, ls[j]) := fun j hj => by rw [hps]; simp [hj]
    have hpo : ∀ x ∈ ps, ok x := fun x hx => by
      obtain ⟨j, hj, rfl⟩ := List.getElem_of_mem hx
      have hj2 : j < ls.length := by omega
      have e := hpj j hj2
      rw [List.getElem?_eq_getElem hj] at e
      have e := Option.some.inj e
      obtain ⟨v, k1, k2⟩ := hcell j hj2
      rw [e, hok]
      refine ⟨?_, hll _ (List.getElem_mem hj2)⟩
      have : cur.getD j undef = v := by simp [k1]
      rw [this]; exact k2
    have hp2 : ps.map (·.2) = ls := by
      apply List.ext_getElem?
      intro j
      rw [List.getElem?_map]
      by_cases hj : j < ls.length
      · rw [hpj j hj, List.getElem?_eq_getElem hj]; rfl
      · rw [List.getElem?_eq_none (by omega), List.getElem?_eq_none (by omega)]; rfl
    obtain ⟨zs, hz⟩ : ∃ zs : List {x : Value × List Int // ok x}, zs.map (·.1) = ps := ⟨ps.attachWith ok hpo, List.attachWith_map_subtype_val hpo⟩
    have hzl : zs.length = ls.length := by rw [← hpl, ← hz, List.length_map]
    have hok0 : ok (.slice none 0 0, []) := by
      rw [hok]
      exact ⟨.nil 1 none 0 (Nat.zero_le _), Nat.zero_le _⟩
    letI : Inhabited {x : Value × List Int // ok x} := ⟨⟨_, hok0⟩⟩
    have hokI : ∀ y, ok y → RepC w N (slI y.2) y.1 ∧ y.2.length ≤ 1000000000 := fun y hy => by
      rw [hok] at hy
      exact hy
    have hrep : ∀ x : {x : Value × List Int // ok x}, RepC w N (slI x.1.2) x.1.1 ∧ x.1.2.length ≤ 1000000000 := fun x => hokI _ x.2
    have hone : OneCell (enW (ok := ok)) := fun x => by
      obtain ⟨ad, c, e, _⟩ := (hrep x).1.sl_inv
      show x.1.1.oneCell' = true
      rw [e]; rfl
    have hcmp : CmpLays1 Tryz.prog 86 #[] (enW (ok := ok)) cfW b 0 zs.toArray.size w := fun m os dk hs x y => by
      obtain ⟨o1, o2⟩ := sw_old enW w b m dk os
      have hold : ∀ q, q < w.heap.size → ¬ N q → (sortWorld enW w b 0 m dk os).heap[q]? = w.heap[q]? := fun q hq hn => o1 q hq (fun e => hn (e ▸ hNb))
      refine Calls.mono (show Calls Tryz.prog 86 #[x.1.1, y.1.1] (sortWorld enW w b 0 m dk os) _ from compare_any x.1.2 y.1.2 x.1.1 y.1.1 _ (hrep x).2 (repC_sli (hrep x).1 hold o2) (repC_sli (hrep y).1 hold o2)) ?_
      rintro e w' ⟨rfl, rfl⟩
      exact ⟨rfl, 0, #[], (grow_none _).symm⟩
    have hblk : b < w.heap.size := (Array.getElem?_eq_some_iff.1 hg).1
    have hzj : ∀ (j : Nat) (hj : j < zs.length), enW zs[j] = cur.getD j undef ∧ zs[j].1.2 = ls[j]'(by omega) := fun j hj => by
      have hj2 : j < ls.length := by omega
      have e : (zs.map (·.1))[j]? = ps[j]? := by rw [hz]
      rw [List.getElem?_map, List.getElem?_eq_getElem hj, hpj j hj2] at e
      have e := Option.some.inj e
      exact ⟨congrArg Prod.fst e, congrArg Prod.snd e⟩
    have hH : Holds (enW (ok := ok)) w b 0 zs.toArray := fun j hj => by
      have hj1 : j < zs.length := by simpa using hj
      have hj2 : j < ls.length := by omega
      obtain ⟨v, k1, _⟩ := hcell j hj2
      have e0 : zs.toArray[j]! = zs[j] := by simp [hj1]
      rw [e0, (hzj j hj1).1]
      refine ⟨?_, by simp [World.frozen?, hg]⟩
      rw [Nat.zero_add, cell_of_row w b j cur _ (0, 0) hg, k1]
      simp [k1]
    have hmain := Any.slices_SortFunc (P := Tryz.prog) (ρ := Tryz.sortW_ren) Tryz.sortW enW hone cfW swoW 86 #[] b 0 cap zs.toArray w (enters_of Tryz.func86 (by kernel_rfl) rfl) hcmp hH hblk (by simp; omega)
    have hzs : zs.toArray.size = ls.length := by simpa using hzl
    rw [hzs] at hmain
    refine Calls.mono (show Calls Tryz.prog 85 #[.slice (some ⟨b, 0, none⟩) ls.length cap, .func (.func 86) #[] #[]] w _ from hmain) ?_
    rintro e w' ⟨rfl, d', n, os, hp, hs, rfl⟩
    rw [← hzs] at hp
    have hd : d'.size = ls.length := by rw [← hzs]; exact hp.1
    have hperm := permIn_list hp
    rw [← hd] at hs
    have hsort := sortedIn_list hs
    obtain ⟨o1, o2⟩ := sw_old enW w b n d' os
    have hat := sw_at enW w b n d' os hg
    have hsz2 : (putCells enW 0 d' cur).size = cur.size := by simp [putCells]
    have hys : (d'.toList.map fun x => x.1.2).length = ls.length := by simpa using hd
    refine ⟨_, (d'.toList.map fun x => x.1.2).map rowL1, rfl, ⟨_, rfl, ?_, ?_⟩, by simp [hd], ?_, fun b2 cs t2 hb2 hc2 => ?_, ⟨rfl, rfl, rfl, o2, fun q hq hne => o1 q hq (fun e => hne (by rw [e]))⟩, .tup [] #[] rfl (fun i x v hx => by simp at hx)⟩
    · have h2 := hperm.map fun x : {x : Value × List Int // ok x} => x.1.2
      have e : (zs.toArray.toList.map fun x : {x : Value × List Int // ok x} => x.1.2) = ls := by
        rw [← hp2, ← hz, List.map_map]
        rfl
      rw [e] at h2
      exact h2
    · rw [List.pairwise_map]
      exact hsort
    · have hcalm : Calm w N (sortWorld enW w b 0 n d' os) (Mut NA (fun _ => some b) (one1 49 1 ((d'.toList.map fun x => x.1.2).map rowL1))) := by
        refine ⟨o2, fun q hq hn => ⟨o1 q hq (fun e => hn (e ▸ hNb)), fun hm => hn ?_⟩⟩
        rw [hN]
        exact mut_one.2 (mut_one.1 hm)
      refine .inr ⟨b, _, cap, rfl, hat, by rw [hsz2]; exact hsz, by rw [List.length_map, hys]; exact hcap, hmax, fun j row hr => ?_, fun j row i x hr hx => ?_⟩
      · rw [List.getElem?_map, Option.map_eq_some_iff] at hr
        obtain ⟨l, _, rfl⟩ := hr
        exact ⟨rfl, rfl⟩
      · rw [List.getElem?_map, Option.map_eq_some_iff] at hr
        obtain ⟨l, hy, rfl⟩ := hr
        rw [List.getElem?_map, Option.map_eq_some_iff] at hy
        obtain ⟨y, hy, rfl⟩ := hy
        have hj : j < d'.toList.length := (List.getElem?_eq_some_iff.1 hy).1
        have hjd : j < d'.size := by simpa using hj
        have hjc : j < cur.size := by rw [hsz]; omega
        have hi : i = 0 := by
          have := (List.getElem?_eq_some_iff.1 hx).1
          simpa using this
        subst hi
        simp at hx
        subst hx
        refine ⟨enW y, ?_, ((hrep y).1).move hcalm⟩
        have ey : d'[j]! = y := by
          have := (List.getElem?_eq_some_iff.1 hy).2
          simpa [hjd] using this
        simp [putCells, hjd, hjc, ← ey]
    · have e4 : b = b2 := Option.some.inj hb2
      subst e4
      rw [hg] at hc2; cases hc2
      exact ⟨_, hat, hsz2⟩
end Go.Proofs.YtlodpljdhdhfmaaGreat
/- The shadow code of functions, as the kit's translation has them. -/
namespace Go.Proofs.YtlodpljdhdhfmaaGreat
open Go.RowKit
def markW : List FuncId := [85]
def k69_0 : SCode := .reg [⟨some 1, none, .box 118 (.tmp 0), [], false⟩, ⟨some 2, none, .mov (.const (.slice none 0 0)), [], false⟩] [1, 2]
def k69_1 : SCode := .reg [⟨some 5, none, .load true 5 (.tmp 1), [], false⟩, ⟨some 6, none, .call 81 [(.tmp 5)], [], false⟩, ⟨some 3, none, .mov (.tmp 6), [], false⟩] [1, 2, 3]
def k69_2 : SCode := .reg [⟨some 7, none, .load true 5 (.tmp 1), [], false⟩, ⟨some 8, none, .call 82 [(.tmp 7)], [], false⟩, ⟨some 9, none, .rng false .u64 (.tmp 8), [], false⟩] [2, 3, 9]
def k69_3 : SCode := .reg [⟨some 10, none, .nxt (.tmp 9), [], false⟩, ⟨some 11, none, .ext (.tmp 10) 0, [], false⟩] [2, 3, 9, 11]
def k69_4 : SCode := .cond (.tmp 11) .skip (.exit 0)
def k69_5 : SCode := .reg [⟨some 12, none, .ent (.tmp 9), [], false⟩, ⟨some 13, none, .ext (.tmp 12) 0, [], false⟩, ⟨some 4, none, .mov (.tmp 13), [], false⟩] [2, 3, 4, 9]
def k69_6 : SCode := .reg [⟨some 14, none, .mov (.tmp 4), [], false⟩, ⟨some 15, none, .call 83 [(.tmp 14)], [], false⟩, ⟨some 16, none, .mov (.tmp 3), [], false⟩, ⟨some 17, none, .bin .eql (.tmp 15) (.tmp 16), [], false⟩] [2, 3, 4, 9, 17]
def k69_7 : SCode := .reg [⟨some 18, none, .mov (.tmp 2), [], false⟩, ⟨some 19, none, .mov (.tmp 4), [], false⟩, ⟨some 20, none, .call 84 [(.tmp 19)], [], false⟩, ⟨some 21, none, .buildSl 49 1 [(.slice none 0 0)] 1 [(0, (.tmp 20))], [], false⟩, ⟨some 22, none, .append 49 1 24 (.tmp 18) (.tmp 21), [], false⟩, ⟨some 2, none, .mov (.tmp 22), [], false⟩] [2, 3, 9]
def k69_8 : SCode := .cond (.tmp 17) k69_7 .skip
def k69_9 : SCode := .seq k69_6 k69_8
def k69_10 : SCode := .seq k69_5 k69_9
def k69_11 : SCode := .block 1 k69_10
def k69_12 : SCode := .seq k69_4 k69_11
def k69_13 : SCode := .seq k69_3 k69_12
def k69_14 : SCode := .loop k69_13
def k69_15 : SCode := .block 0 k69_14
def k69_16 : SCode := .seq k69_2 k69_15
def k69_17 : SCode := .reg [⟨some 23, none, .mov (.tmp 2), [], false⟩, ⟨some 24, none, .callM 85 [(.tmp 23), (.func 86)], [], false⟩] [2]
def k69_18 : SCode := .reg [⟨some 25, none, .mov (.tmp 2), [], false⟩, ⟨some 2, none, .mov (.tmp 25), [], false⟩] [2]
def k69_19 : SCode := .seq k69_18 .ret
def k69_20 : SCode := .seq k69_17 k69_19
def k69_21 : SCode := .seq k69_16 k69_20
def k69_22 : SCode := .seq k69_1 k69_21
def k69_23 : SCode := .seq k69_0 k69_22
theorem glaw_wire_book_least (cs : List CV) (r : CV) (hl : cs.length ≤ 26) (h : STri (cfF Tryz.prog markW 26) k69_23 (initT 0 cs) [] (retQ rs_wire_book_least r)) : SC Tryz.prog 42 cs r :=
  sc_of markW follows Tryz.func42 rfl Tryz.ntmps42 (by decide) (by kernel_rfl) (by kernel_rfl) hl h
end Go.Proofs.YtlodpljdhdhfmaaGreat
/- Wire, XV: the smallest sets of sources that are wrong. -/
namespace Go.Proofs.YtlodpljdhdhfmaaGreat
open Go.RowKit
def numsTo (x k : Nat) : List Int := ((List.range k).filter fun i => x.testBit i).map fun (i : Nat) => (i : Int)
def numsL (x : Nat) : List Int := numsTo x (lenN x)
theorem numsTo_succ (x k : Nat) : numsTo x (k + 1) = if x.testBit k = true then numsTo x k ++ [(k : Int)] else numsTo x k := by
  unfold numsTo
  rw [List.range_succ, List.filter_append, List.map_append]
  by_cases h : x.testBit k = true <;> simp [h]
theorem numsTo_len (x k : Nat) : (numsTo x k).length ≤ k := by
  unfold numsTo
  rw [List.length_map]
  exact Nat.le_trans (List.length_filter_le _ _) (by simp)
theorem len_le : ∀ x : Nat, x < 1024 → lenN x ≤ 10 := by decide +kernel
theorem sNumbers (x : Nat) (hx : x < 1024) : SC Tryz.prog 84 [U x] (slI (numsL x)) := by
  refine law_wire_numbers _ _ (by simp) ?_
  have hl := len_le x hx
  (repeat' (first | ((first | with_reducible refine st_skip ?_ | with_reducible refine st_exit ?_); (try simp only [seqQ, blockQ, loopQ, forQ, whileQ, reduceIte, Nat.reduceEqDiff])) | (with_reducible refine st_ret ?_; ((try simp only [seqQ, blockQ, loopQ, forQ, whileQ]); first | (with_reducible refine retM_ret ?_) | refine retQ_ret ?_; simp)) | refine st_seq ?_ | refine st_block ?_ | ((with_reducible show (STri _ _ _ _ _) ∧ (STri _ _ _ _ _)); refine And.intro ?_ ?_) | ((first | refine st_reg ?_ | refine buildP_own ?_ | refine appP_own ?_ | refine callP_b (sLen x hx) rfl ?_) <;> (simp -dsimp; (repeat (simp -dsimp (disch := (first | omega | assumption | (refine Bool.eq_false_iff.1 ?_; assumption))) only [wrap_in, if_pos, if_neg]; (try simp -dsimp))))) | ((first | refine guardP_of (fun hc => ?_) (fun hc => ?_) | refine st_cond rfl (fun hc => ?_) (fun hc => ?_)) <;> (try simp only [lqA, lqB, lqC, lqD, lqE, lqF, lqG, lqH, lqI, lqJ, lqK, lqL, lqM, lqN, lqO] at hc) <;> (try (exfalso; first | omega | exact bool_tf hc (by assumption) | exact bool_ft hc (by assumption) | exact absurd (by assumption) hc)) <;> (first | with_reducible show STri _ _ _ _ _ _ | (simp -dsimp [hc]; (repeat (simp -dsimp (disch := (first | omega | assumption | (refine Bool.eq_false_iff.1 ?_; assumption))) only [wrap_in, if_pos, if_neg]; (try simp -dsimp [hc]))))))))
  refine st_nil 2 200 3 1 rfl (by simp [newOK]) ?_
  refine st_less [(0, .c (U x)), (2, .own 200 0), (5, .c (I (lenN x))), (6, .c (I 0))] [(200, .arr 3 1 [])] (by simp [Less, LessT, LessH, dropOK, dropK, SV.outD, Blk.outD]) ?_
  refine st_for [200] (lenN x) (fun k T H => T = [(0, .c (U x)), (2, .own 200 (numsTo x k).length), (5, .c (I (lenN x))), (6, .c (I k))] ∧ H = [(200, .arr 3 1 ((numsTo x k).map rowI))]) (by simp) ⟨by simp [numsTo], by simp [numsTo]⟩ ?_
  rintro k T H hk ⟨rfl, rfl⟩
  by_cases hlt : k < lenN x
  · have f1 := shr_nat x k (by omega)
    have hs := numsTo_succ x k
    have hlen := numsTo_len x k
    have e : ((x : Int) >>> k % 2 = 1) = (x.testBit k = true) := by
      have e0 : (x : Int) >>> k = ((x >>> k : Nat) : Int) := rfl
      rw [← bit_odd, e0]
      apply propext
      omega
    generalize numsTo x k = l at *
    (repeat' (first | ((first | with_reducible refine st_skip ?_ | with_reducible refine st_exit ?_); (try simp only [seqQ, blockQ, loopQ, forQ, whileQ, reduceIte, Nat.reduceEqDiff])) | (with_reducible refine st_ret ?_; ((try simp only [seqQ, blockQ, loopQ, forQ, whileQ]); first | (with_reducible refine retM_ret ?_) | refine retQ_ret ?_; simp [hlt, f1, and_one])) | refine st_seq ?_ | refine st_block ?_ | ((with_reducible show (STri _ _ _ _ _) ∧ (STri _ _ _ _ _)); refine And.intro ?_ ?_) | ((first | refine st_reg ?_ | refine buildP_own ?_ | refine appP_own ?_) <;> (simp -dsimp [hlt, f1, and_one]; (repeat (simp -dsimp (disch := (first | omega | assumption | (refine Bool.eq_false_iff.1 ?_; assumption))) only [wrap_in, if_pos, if_neg]; (try simp -dsimp [hlt, f1, and_one]))))) | ((first | refine guardP_of (fun hc => ?_) (fun hc => ?_) | refine st_cond rfl (fun hc => ?_) (fun hc => ?_)) <;> (try simp only [lqA, lqB, lqC, lqD, lqE, lqF, lqG, lqH, lqI, lqJ, lqK, lqL, lqM, lqN, lqO] at hc) <;> (try (exfalso; first | omega | exact bool_tf hc (by assumption) | exact bool_ft hc (by assumption) | exact absurd (by assumption) hc)) <;> (first | with_reducible show STri _ _ _ _ _ _ | (simp -dsimp [hlt, f1, and_one, hc]; (repeat (simp -dsimp (disch := (first | omega | assumption | (refine Bool.eq_false_iff.1 ?_; assumption))) only [wrap_in, if_pos, if_neg]; (try simp -dsimp [hlt, f1, and_one, hc]))))))))
    · rw [e] at hc
      rw [if_pos hc] at hs
      exact ⟨hlt, by simp, by simp [hs], by simp [hs]⟩
    · rw [e] at hc
      rw [if_neg hc] at hs
      exact ⟨hlt, by simp, by simp [hs], by simp [hs]⟩
  · have : k = lenN x := by omega
    subst this
    (repeat' (first | ((first | with_reducible refine st_skip ?_ | with_reducible refine st_exit ?_); (try simp only [seqQ, blockQ, loopQ, forQ, whileQ, reduceIte, Nat.reduceEqDiff])) | (with_reducible refine st_ret ?_; ((try simp only [seqQ, blockQ, loopQ, forQ, whileQ]); first | (with_reducible refine retM_ret ?_) | refine retQ_ret ?_; simp [hlt])) | refine st_seq ?_ | refine st_block ?_ | ((with_reducible show (STri _ _ _ _ _) ∧ (STri _ _ _ _ _)); refine And.intro ?_ ?_) | ((first | refine st_reg ?_ | refine buildP_own ?_ | refine appP_own ?_) <;> (simp -dsimp [hlt]; (repeat (simp -dsimp (disch := (first | omega | assumption | (refine Bool.eq_false_iff.1 ?_; assumption))) only [wrap_in, if_pos, if_neg]; (try simp -dsimp [hlt]))))) | ((first | refine guardP_of (fun hc => ?_) (fun hc => ?_) | refine st_cond rfl (fun hc => ?_) (fun hc => ?_)) <;> (try simp only [lqA, lqB, lqC, lqD, lqE, lqF, lqG, lqH, lqI, lqJ, lqK, lqL, lqM, lqN, lqO] at hc) <;> (try (exfalso; first | omega | exact bool_tf hc (by assumption) | exact bool_ft hc (by assumption) | exact absurd (by assumption) hc)) <;> (first | with_reducible show STri _ _ _ _ _ _ | (simp -dsimp [hlt, hc]; (repeat (simp -dsimp (disch := (first | omega | assumption | (refine Bool.eq_false_iff.1 ?_; assumption))) only [wrap_in, if_pos, if_neg]; (try simp -dsimp [hlt, hc]))))))))
    exact .refl _
def sortL (ls : List (List Int)) : List (List Int) := ls.mergeSort fun x y => !ltL y x
def leastS (b : Wbk) : List Nat := (setsL b).filter fun x => decide (popN x = fewN b)
def leastL (b : Wbk) : List (List Int) := sortL ((leastS b).map numsL)
def slL (ls : List (List Int)) : CV := .sl 1 (ls.map rowL1)
attribute [simp] slL
theorem sortL_pair (ls : List (List Int)) : (sortL ls).Pairwise fun x y => ltL y x = false := by
  have h1 : (sortL ls).Pairwise fun x y => (!ltL y x) = true := List.pairwise_mergeSort (le := fun x y => !ltL y x) (fun x y z h1 h2 => by
      unfold ltL at *
      simp only [Bool.not_eq_true', decide_eq_false_iff_not] at *
      have a1 := cmpL_anti x y
      have a2 := cmpL_anti y z
      have a3 := cmpL_anti x z
      have := (cmpL_trans (xs := x) (ys := y) (zs := z) (by omega) (by omega)).1
      omega) (fun x y => by
      unfold ltL
      have a1 := cmpL_anti x y
      simp only [Bool.or_eq_true, Bool.not_eq_true', decide_eq_false_iff_not]
      omega) ls
  exact h1.imp fun h => by simpa using h
theorem sortL_of {xs ys : List (List Int)} (hp : ys.Perm xs) (hs : ys.Pairwise fun x y => ltL y x = false) : ys = sortL xs := by
  refine List.Perm.eq_of_pairwise (le := fun x y => ltL y x = false) (fun x y _ _ h1 h2 => ?_) hs (sortL_pair xs) (hp.trans (List.mergeSort_perm xs _).symm)
  unfold ltL at h1 h2
  simp only [decide_eq_false_iff_not] at h1 h2
  have a1 := cmpL_anti x y
  exact cmpL_eq (by omega)
def rowsU (acc : List Nat) : List (List CV) := (acc.map numsL).map rowL1
@[simp] theorem rowsU_len (acc : List Nat) : (rowsU acc).length = acc.length := by simp [rowsU]
theorem rowsU_snoc (acc : List Nat) (x : Nat) : rowsU (acc ++ [x]) = rowsU acc ++ [[.sl 1 ((numsL x).map rowI)]] := by simp [rowsU]
def leI (b : Wbk) (m : Nat) (T : TL) (H : HL) : Prop := ∃ L cur acc, m = L.length ∧ (∀ x ∈ L, x < 1024) ∧ (acc ++ L.filter fun x => decide (popN x = fewN b)).Perm (leastS b) ∧ acc.length + L.length ≤ 20000 ∧
  T = [(2, .own 200 acc.length), (3, .c (I (fewN b : Nat))), (9, .it 9)] ∧ H = [(200, .arr 49 1 (rowsU acc)), (9, .it false .u64 (entsU L) cur)]
theorem nums_len (x : Nat) (hx : x < 1024) : (numsL x).length ≤ 1000000000 := by
  have := numsTo_len x (lenN x)
  have := len_le x hx
  unfold numsL; omega
theorem sLeast (b : Wbk) (hb : BkOK b) : SC Tryz.prog 42 [cBk b] (slL (leastL b)) := by
  refine glaw_wire_book_least _ _ (by simp) ?_
  have sf := sFewest b hb
  have ss := sSets b hb
  have hsl : (setsL b).length ≤ 20000 := by
    have h1 := setsTo_len b (allL b).length (Nat.le_refl _)
    have h2 : setsTo b (allL b).length = setsL b := by unfold setsTo setsL; rw [List.take_length]
    have h3 := allL_len b
    have n0 := hb.n0
    have n2 := hb.n2
    rw [h2] at h1
    unfold bookN at h3
    omega
  have hst : ∀ x ∈ leastS b, x < 1024 := fun x hx => set_lt hb (List.mem_filter.1 hx).1
  (repeat' (first | ((first | with_reducible refine st_skip ?_ | with_reducible refine st_exit ?_); (try simp only [seqQ, blockQ, loopQ, forQ, whileQ, reduceIte, Nat.reduceEqDiff])) | (with_reducible refine st_ret ?_; ((try simp only [seqQ, blockQ, loopQ, forQ, whileQ]); first | (with_reducible refine retM_ret ?_) | refine retQ_ret ?_; simp)) | refine st_seq ?_ | refine st_block ?_ | ((with_reducible show (STri _ _ _ _ _) ∧ (STri _ _ _ _ _)); refine And.intro ?_ ?_) | ((first | refine st_reg ?_ | refine buildP_own ?_ | refine appP_own ?_ | ((with_reducible show callGP _ _ _ _ _ _ _); refine callG_b (sf) ?hcc ?hpp ?_; (case hcc => (first | rfl | (simp <;> fail))); (case hpp => (first | rfl | (simp <;> fail)))) | ((with_reducible show callGP _ _ _ _ _ _ _); refine callG_b (ss) ?hcc ?hpp ?_; (case hcc => (first | rfl | (simp <;> fail))); (case hpp => (first | rfl | (simp <;> fail)))) | refine callP_b (sf) rfl ?_ | refine callP_b (ss) rfl ?_) <;> (simp -dsimp; (repeat (simp -dsimp (disch := (first | omega | assumption | (refine Bool.eq_false_iff.1 ?_; assumption))) only [wrap_in, if_pos, if_neg]; (try simp -dsimp))))) | ((first | refine guardP_of (fun hc => ?_) (fun hc => ?_) | refine st_cond rfl (fun hc => ?_) (fun hc => ?_)) <;> (try simp only [lqA, lqB, lqC, lqD, lqE, lqF, lqG, lqH, lqI, lqJ, lqK, lqL, lqM, lqN, lqO] at hc) <;> (try (exfalso; first | omega | exact bool_tf hc (by assumption) | exact bool_ft hc (by assumption) | exact absurd (by assumption) hc)) <;> (first | with_reducible show STri _ _ _ _ _ _ | (simp -dsimp [hc]; (repeat (simp -dsimp (disch := (first | omega | assumption | (refine Bool.eq_false_iff.1 ?_; assumption))) only [wrap_in, if_pos, if_neg]; (try simp -dsimp [hc]))))))))
  refine st_nil 2 200 49 1 rfl (by simp [newOK]) ?_
  refine st_less [(2, .own 200 0), (3, .c (I (fewN b : Nat))), (9, .it 9)] [(200, .arr 49 1 []), (9, .it false .u64 (entsU (setsL b)) none)] (by simp [Less, LessT, LessH, dropOK, dropK, SV.outD, Blk.outD]) ?_
  refine st_while [200, 9] (leI b) (setsL b).length (by simp) ⟨setsL b, none, [], rfl, fun x hx => set_lt hb hx, .refl _, by simpa using hsl, by simp, by simp [rowsU]⟩ ?_
  rintro m T H ⟨L, cur, acc, rfl, hL, hperm, hlen, rfl, rfl⟩
  have hA : acc.length ≤ 9223372036854775806 := by omega
  have hB : (acc.length + 1) * 24 ≤ 140737488355328 := by omega
  have ms := mSortL (acc.map numsL) (by simp; omega) (fun l hl => by
    obtain ⟨x, hx, rfl⟩ := List.mem_map.1 hl
    exact nums_len x (hst x (hperm.subset (by simp [hx]))))
  (repeat' (first | ((with_reducible show STri _ SCode.skip [(2, _), (3, _), (4, _), (9, _), (17, _)] _ _); refine st_less [(2, .own 200 acc.length), (3, .c (I (fewN b : Nat))), (9, .it 9)] [(200, .arr 49 1 (rowsU acc)), (9, .it false .u64 (entsU Rq) (some (entU wq)))] (by simp [Less, LessT, LessH, dropOK, dropK, SV.outD, Blk.outD]) ?_) | ((first | with_reducible refine st_skip ?_ | with_reducible refine st_exit ?_); (try simp only [seqQ, blockQ, loopQ, forQ, whileQ, reduceIte, Nat.reduceEqDiff])) | (with_reducible refine st_ret ?_; ((try simp only [seqQ, blockQ, loopQ, forQ, whileQ]); first | (with_reducible refine retM_ret ?_) | refine retQ_ret ?_; simp [hA, hB])) | refine st_seq ?_ | refine st_block ?_ | ((with_reducible show (STri _ _ _ _ _) ∧ (STri _ _ _ _ _)); refine And.intro ?_ ?_) | ((first | refine st_reg ?_ | ((with_reducible show callMP _ _ _ _ _ _); refine callM_of (ms ) (by decide) (by first | rfl | simp) (by first | rfl | simp) (by first | rfl | simp) (by first | rfl | simp) (fun rows2 hR2 hl2 => ?_);  obtain ⟨ys, rfl, q1, q2⟩ := hR2) | refine buildP_own ?_ | refine appP_own ?_ | ((with_reducible show callGP _ _ _ _ _ _ _); refine callG_b (sOnes wq (hL wq (hpq.mem_iff.2 (by simp)))) ?hcc ?hpp ?_; (case hcc => (first | rfl | (simp <;> fail))); (case hpp => (first | rfl | (simp <;> fail)))) | ((with_reducible show callGP _ _ _ _ _ _ _); refine callG_b (sNumbers wq (hL wq (hpq.mem_iff.2 (by simp)))) ?hcc ?hpp ?_; (case hcc => (first | rfl | (simp <;> fail))); (case hpp => (first | rfl | (simp <;> fail)))) | ((with_reducible show nextP _ _ _ _); refine next_of (by first | rfl | simp) (fun hl0 => ?_) (fun pe re hpm => ?_) <;> (first | (obtain ⟨wq, Rq, rfl, rfl, hpq⟩ := ents_perm hpm) | skip)) | refine callP_b (sOnes wq (hL wq (hpq.mem_iff.2 (by simp)))) rfl ?_ | refine callP_b (sNumbers wq (hL wq (hpq.mem_iff.2 (by simp)))) rfl ?_) <;> (simp -dsimp [hA, hB]; (repeat (simp -dsimp (disch := (first | omega | assumption | (refine Bool.eq_false_iff.1 ?_; assumption))) only [wrap_in, if_pos, if_neg]; (try simp -dsimp [hA, hB]))))) | ((first | refine guardP_of (fun hc => ?_) (fun hc => ?_) | refine st_cond rfl (fun hc => ?_) (fun hc => ?_)) <;> (try simp only [lqA, lqB, lqC, lqD, lqE, lqF, lqG, lqH, lqI, lqJ, lqK, lqL, lqM, lqN, lqO] at hc) <;> (try (exfalso; first | omega | exact bool_tf hc (by assumption) | exact bool_ft hc (by assumption) | exact absurd (by assumption) hc)) <;> (first | with_reducible show STri _ _ _ _ _ _ | (simp -dsimp [hA, hB, hc]; (repeat (simp -dsimp (disch := (first | omega | assumption | (refine Bool.eq_false_iff.1 ?_; assumption))) only [wrap_in, if_pos, if_neg]; (try simp -dsimp [hA, hB, hc]))))))))
  · have hL0 : L = [] := by simpa [entsU] using hl0
    subst hL0
    simp only [List.filter_nil, List.append_nil] at hperm
    have e : ys = leastL b := sortL_of (q1.trans (hperm.map numsL)) q2
    have hly := q1.length_eq
    have hly2 : ys.length = acc.length := by simpa using hly
    subst e
    rw [if_pos hly2.symm]
    exact ⟨_, rfl, .refl _⟩
  · have h1 : decide (popN wq = fewN b) = true := by simpa using (show popN wq = fewN b by omega)
    have hl2 := hpq.length_eq
    simp only [List.length_cons] at hl2
    refine ⟨Rq.length, by omega, by simp, Rq, some (entU wq), acc ++ [wq], rfl, fun x hx => hL x (hpq.mem_iff.2 (by simp [hx])), ?_, by simp; omega, by simp, by simp [rowsU_snoc]⟩
    refine List.Perm.trans ?_ hperm
    have := (hpq.filter fun x => decide (popN x = fewN b)).append_left acc
    rw [List.filter_cons_of_pos (p := fun x => decide (popN x = fewN b)) h1] at this
    rw [List.append_assoc]
    exact this.symm
  · have h1 : ¬ decide (popN wq = fewN b) = true := by simpa using (show ¬ popN wq = fewN b by omega)
    have hl2 := hpq.length_eq
    simp only [List.length_cons] at hl2
    refine ⟨Rq.length, by omega, by simp, Rq, some (entU wq), acc, rfl, fun x hx => hL x (hpq.mem_iff.2 (by simp [hx])), ?_, by omega, by simp, by simp⟩
    refine List.Perm.trans ?_ hperm
    have := (hpq.filter fun x => decide (popN x = fewN b)).append_left acc
    rw [List.filter_cons_of_neg (p := fun x => decide (popN x = fewN b)) h1] at this
    exact this.symm
end Go.Proofs.YtlodpljdhdhfmaaGreat
/- Wire, XVI: who is wrong. -/
namespace Go.Proofs.YtlodpljdhdhfmaaGreat
open Go.RowKit
theorem pop_two : ∀ x : Nat, x < 1024 → ∀ n : Nat, n < 11 → x < 2 ^ n → popN x ≤ n := by decide +kernel
theorem set_pop {b : Wbk} (hb : BkOK b) {x : Nat} (hx : x ∈ setsL b) : popN x ≤ b.srcs.length := by
  obtain ⟨y, hy, rfl⟩ := mem_setsL.1 hx
  obtain ⟨k, hk, rfl⟩ := List.mem_map.1 hy
  have h1 := wrongTo_lt hb (b.nlo + k) b.notes.length (Nat.le_refl _)
  exact pop_two _ (set_lt hb hx) _ (by have := hb.len; omega) h1
theorem sets_ne {b : Wbk} (hb : BkOK b) : ∃ x, x ∈ setsL b := by
  have n1 := hb.n1
  refine ⟨wrongN b b.nlo, mem_setsL.2 ⟨(b.nlo, wrongN b b.nlo), ?_, rfl⟩⟩
  unfold allL bookN
  exact List.mem_map.2 ⟨0, List.mem_range.2 (by omega), by simp⟩
theorem least_ne {b : Wbk} (hb : BkOK b) : ∃ x, x ∈ leastS b := by
  obtain ⟨x, hx⟩ := sets_ne hb
  have h1 := minU_le (setsL b) b.srcs.length
  rcases minU_at (setsL b) b.srcs.length with h | ⟨y, hy, h⟩
  · have h2 := h1.2 x hx
    have h3 := set_pop hb hx
    exact ⟨x, List.mem_filter.2 ⟨hx, by simp only [decide_eq_true_eq]; unfold fewN; omega⟩⟩
  · exact ⟨y, List.mem_filter.2 ⟨hy, by simp only [decide_eq_true_eq]; unfold fewN; omega⟩⟩
theorem leastL_ne {b : Wbk} (hb : BkOK b) : ∃ s r, leastL b = s :: r := by
  obtain ⟨x, hx⟩ := least_ne hb
  have h : numsL x ∈ leastL b := (List.mergeSort_perm _ _).mem_iff.2 (List.mem_map.2 ⟨x, hx, rfl⟩)
  cases e : leastL b with
  | nil => rw [e] at h; cases h
  | cons s r => exact ⟨s, r, rfl⟩
def convE : List (List Int) → Int × Int
  | [] :: _ => (0, 7)
  | (_ :: _ :: _) :: _ => (0, 9)
  | [_] :: _ :: _ => (0, 6)
  | [[x]] => (x, 0)
  | [] => (0, 0)
theorem sConvict (w : List Wsrc) (hw : WLen w) (l : List Wnt) (hl : l.length ≤ 1000000) (nlo nhi : Int) : SC Tryz.prog 23 [slSr w, slN l, .agg [I nlo, I nhi]]
    (.tup [I (if newErr w l nlo nhi = 0 then (convE (leastL (newBk w l nlo nhi))).1 else 0), I (if newErr w l nlo nhi = 0 then (convE (leastL (newBk w l nlo nhi))).2 else newErr w l nlo nhi)]) := by
  refine law_wire_Convict _ _ (by simp) ?_
  have sb := sNewBook w hw l hl nlo nhi
  by_cases h : newErr w l nlo nhi = 0
  · have hb := new_bk h
    have sf := sLeast _ hb
    obtain ⟨s, r, hsr⟩ := leastL_ne hb
    rw [if_pos h, if_pos h]
    rw [h] at sb
    generalize newBk w l nlo nhi = b at *
    rw [hsr] at sf ⊢
    rcases s with _ | ⟨x, _ | ⟨y, s⟩⟩
    · (repeat' (first | ((first | with_reducible refine st_skip ?_ | with_reducible refine st_exit ?_); (try simp only [seqQ, blockQ, loopQ, forQ, whileQ, reduceIte, Nat.reduceEqDiff])) | (with_reducible refine st_ret ?_; ((try simp only [seqQ, blockQ, loopQ, forQ, whileQ]); first | (with_reducible refine retM_ret ?_) | refine retQ_ret ?_; simp)) | refine st_seq ?_ | refine st_block ?_ | ((with_reducible show (STri _ _ _ _ _) ∧ (STri _ _ _ _ _)); refine And.intro ?_ ?_) | ((first | refine st_reg ?_ | refine buildP_own ?_ | refine appP_own ?_ | refine callP_b (sb) rfl ?_ | refine callP_b (sf) rfl ?_) <;> (simp -dsimp; (repeat (simp -dsimp (disch := (first | omega | assumption | (refine Bool.eq_false_iff.1 ?_; assumption))) only [wrap_in, if_pos, if_neg]; (try simp -dsimp))))) | ((first | refine guardP_of (fun hc => ?_) (fun hc => ?_) | refine st_cond rfl (fun hc => ?_) (fun hc => ?_)) <;> (try simp only [lqA, lqB, lqC, lqD, lqE, lqF, lqG, lqH, lqI, lqJ, lqK, lqL, lqM, lqN, lqO] at hc) <;> (try (exfalso; first | omega | exact bool_tf hc (by assumption) | exact bool_ft hc (by assumption) | exact absurd (by assumption) hc)) <;> (first | with_reducible show STri _ _ _ _ _ _ | (simp -dsimp [hc]; (repeat (simp -dsimp (disch := (first | omega | assumption | (refine Bool.eq_false_iff.1 ?_; assumption))) only [wrap_in, if_pos, if_neg]; (try simp -dsimp [hc]))))))))
      all_goals exact .refl _
    · rcases r with _ | ⟨t, r⟩
      · (repeat' (first | ((first | with_reducible refine st_skip ?_ | with_reducible refine st_exit ?_); (try simp only [seqQ, blockQ, loopQ, forQ, whileQ, reduceIte, Nat.reduceEqDiff])) | (with_reducible refine st_ret ?_; ((try simp only [seqQ, blockQ, loopQ, forQ, whileQ]); first | (with_reducible refine retM_ret ?_) | refine retQ_ret ?_; simp)) | refine st_seq ?_ | refine st_block ?_ | ((with_reducible show (STri _ _ _ _ _) ∧ (STri _ _ _ _ _)); refine And.intro ?_ ?_) | ((first | refine st_reg ?_ | refine buildP_own ?_ | refine appP_own ?_ | refine callP_b (sb) rfl ?_ | refine callP_b (sf) rfl ?_) <;> (simp -dsimp; (repeat (simp -dsimp (disch := (first | omega | assumption | (refine Bool.eq_false_iff.1 ?_; assumption))) only [wrap_in, if_pos, if_neg]; (try simp -dsimp))))) | ((first | refine guardP_of (fun hc => ?_) (fun hc => ?_) | refine st_cond rfl (fun hc => ?_) (fun hc => ?_)) <;> (try simp only [lqA, lqB, lqC, lqD, lqE, lqF, lqG, lqH, lqI, lqJ, lqK, lqL, lqM, lqN, lqO] at hc) <;> (try (exfalso; first | omega | exact bool_tf hc (by assumption) | exact bool_ft hc (by assumption) | exact absurd (by assumption) hc)) <;> (first | with_reducible show STri _ _ _ _ _ _ | (simp -dsimp [hc]; (repeat (simp -dsimp (disch := (first | omega | assumption | (refine Bool.eq_false_iff.1 ?_; assumption))) only [wrap_in, if_pos, if_neg]; (try simp -dsimp [hc]))))))))
        all_goals exact .refl _
      · have h1 : (1 : Int) < (r.length : Int) + 1 + 1 := by omega
        (repeat' (first | ((first | with_reducible refine st_skip ?_ | with_reducible refine st_exit ?_); (try simp only [seqQ, blockQ, loopQ, forQ, whileQ, reduceIte, Nat.reduceEqDiff])) | (with_reducible refine st_ret ?_; ((try simp only [seqQ, blockQ, loopQ, forQ, whileQ]); first | (with_reducible refine retM_ret ?_) | refine retQ_ret ?_; simp [h1])) | refine st_seq ?_ | refine st_block ?_ | ((with_reducible show (STri _ _ _ _ _) ∧ (STri _ _ _ _ _)); refine And.intro ?_ ?_) | ((first | refine st_reg ?_ | refine buildP_own ?_ | refine appP_own ?_ | refine callP_b (sb) rfl ?_ | refine callP_b (sf) rfl ?_) <;> (simp -dsimp [h1]; (repeat (simp -dsimp (disch := (first | omega | assumption | (refine Bool.eq_false_iff.1 ?_; assumption))) only [wrap_in, if_pos, if_neg]; (try simp -dsimp [h1]))))) | ((first | refine guardP_of (fun hc => ?_) (fun hc => ?_) | refine st_cond rfl (fun hc => ?_) (fun hc => ?_)) <;> (try simp only [lqA, lqB, lqC, lqD, lqE, lqF, lqG, lqH, lqI, lqJ, lqK, lqL, lqM, lqN, lqO] at hc) <;> (try (exfalso; first | omega | exact bool_tf hc (by assumption) | exact bool_ft hc (by assumption) | exact absurd (by assumption) hc)) <;> (first | with_reducible show STri _ _ _ _ _ _ | (simp -dsimp [h1, hc]; (repeat (simp -dsimp (disch := (first | omega | assumption | (refine Bool.eq_false_iff.1 ?_; assumption))) only [wrap_in, if_pos, if_neg]; (try simp -dsimp [h1, hc]))))))))
        all_goals exact .refl _
    · have h1 : (1 : Int) < (s.length : Int) + 1 + 1 := by omega
      have h2 : ¬ (s.length : Int) + 1 + 1 = 0 := by omega
      (repeat' (first | ((first | with_reducible refine st_skip ?_ | with_reducible refine st_exit ?_); (try simp only [seqQ, blockQ, loopQ, forQ, whileQ, reduceIte, Nat.reduceEqDiff])) | (with_reducible refine st_ret ?_; ((try simp only [seqQ, blockQ, loopQ, forQ, whileQ]); first | (with_reducible refine retM_ret ?_) | refine retQ_ret ?_; simp [h1, h2])) | refine st_seq ?_ | refine st_block ?_ | ((with_reducible show (STri _ _ _ _ _) ∧ (STri _ _ _ _ _)); refine And.intro ?_ ?_) | ((first | refine st_reg ?_ | refine buildP_own ?_ | refine appP_own ?_ | refine callP_b (sb) rfl ?_ | refine callP_b (sf) rfl ?_) <;> (simp -dsimp [h1, h2]; (repeat (simp -dsimp (disch := (first | omega | assumption | (refine Bool.eq_false_iff.1 ?_; assumption))) only [wrap_in, if_pos, if_neg]; (try simp -dsimp [h1, h2]))))) | ((first | refine guardP_of (fun hc => ?_) (fun hc => ?_) | refine st_cond rfl (fun hc => ?_) (fun hc => ?_)) <;> (try simp only [lqA, lqB, lqC, lqD, lqE, lqF, lqG, lqH, lqI, lqJ, lqK, lqL, lqM, lqN, lqO] at hc) <;> (try (exfalso; first | omega | exact bool_tf hc (by assumption) | exact bool_ft hc (by assumption) | exact absurd (by assumption) hc)) <;> (first | with_reducible show STri _ _ _ _ _ _ | (simp -dsimp [h1, h2, hc]; (repeat (simp -dsimp (disch := (first | omega | assumption | (refine Bool.eq_false_iff.1 ?_; assumption))) only [wrap_in, if_pos, if_neg]; (try simp -dsimp [h1, h2, hc]))))))))
      all_goals exact .refl _
  · rw [if_neg h, if_neg h]
    generalize newErr w l nlo nhi = e at *
    generalize newBk w l nlo nhi = b at *
    (repeat' (first | ((first | with_reducible refine st_skip ?_ | with_reducible refine st_exit ?_); (try simp only [seqQ, blockQ, loopQ, forQ, whileQ, reduceIte, Nat.reduceEqDiff])) | (with_reducible refine st_ret ?_; ((try simp only [seqQ, blockQ, loopQ, forQ, whileQ]); first | (with_reducible refine retM_ret ?_) | refine retQ_ret ?_; simp [h])) | refine st_seq ?_ | refine st_block ?_ | ((with_reducible show (STri _ _ _ _ _) ∧ (STri _ _ _ _ _)); refine And.intro ?_ ?_) | ((first | refine st_reg ?_ | refine buildP_own ?_ | refine appP_own ?_ | refine callP_b (sb) rfl ?_) <;> (simp -dsimp [h]; (repeat (simp -dsimp (disch := (first | omega | assumption | (refine Bool.eq_false_iff.1 ?_; assumption))) only [wrap_in, if_pos, if_neg]; (try simp -dsimp [h]))))) | ((first | refine guardP_of (fun hc => ?_) (fun hc => ?_) | refine st_cond rfl (fun hc => ?_) (fun hc => ?_)) <;> (try simp only [lqA, lqB, lqC, lqD, lqE, lqF, lqG, lqH, lqI, lqJ, lqK, lqL, lqM, lqN, lqO] at hc) <;> (try (exfalso; first | omega | exact bool_tf hc (by assumption) | exact bool_ft hc (by assumption) | exact absurd (by assumption) hc)) <;> (first | with_reducible show STri _ _ _ _ _ _ | (simp -dsimp [h, hc]; (repeat (simp -dsimp (disch := (first | omega | assumption | (refine Bool.eq_false_iff.1 ?_; assumption))) only [wrap_in, if_pos, if_neg]; (try simp -dsimp [h, hc]))))))))
    all_goals exact .refl _
end Go.Proofs.YtlodpljdhdhfmaaGreat
/- Declarations picked out of other texts. -/
namespace Go.Proofs.YtlodpljdhdhfmaaGreat
open Go.RowKit
theorem mem_allL {b : Wbk} {x : Int × Nat} : x ∈ allL b ↔ b.nlo ≤ x.1 ∧ x.1 ≤ b.nhi ∧ x.2 = wrongN b x.1 := by
  unfold allL bookN
  rw [List.mem_map]
  constructor
  · rintro ⟨k, hk, rfl⟩
    have := List.mem_range.1 hk
    exact ⟨by omega, by omega, rfl⟩
  · rintro ⟨h1, h2, h3⟩
    refine ⟨(x.1 - b.nlo).toNat, List.mem_range.2 (by omega), ?_⟩
    have e : b.nlo + ((x.1 - b.nlo).toNat : Int) = x.1 := by omega
    rw [e, ← h3]
def GapsP (l : List (Int × Int)) : Prop := (∀ e ∈ l, e.1 ≤ e.2) ∧ l.Pairwise fun a b => a.2 + 1 < b.1
def insB (n : Int) (l : List (Int × Int)) : Bool := l.any fun e => decide (e.1 ≤ n) && decide (n ≤ e.2)
structure SpInv (b : Wbk) (p : Nat → Bool) (k : Nat) (l : List (Int × Int)) : Prop where
  gap : GapsP l
  lo : ∀ e ∈ l, b.nlo ≤ e.1 ∧ e.2 < b.nlo + k
  cov : ∀ y, insB y l = true ↔ b.nlo ≤ y ∧ y < b.nlo + k ∧ p (wrongN b y) = true
theorem insB_app (y : Int) (l m : List (Int × Int)) : insB y (l ++ m) = (insB y l || insB y m) := by unfold insB; exact List.any_append
theorem insB_one (y : Int) (e : Int × Int) : insB y [e] = true ↔ e.1 ≤ y ∧ y ≤ e.2 := by unfold insB; simp
theorem spInv (b : Wbk) (p : Nat → Bool) : ∀ k, k ≤ (allL b).length → SpInv b p k (spansTo b p k)
  | 0, _ => by
    have e0 : spansTo b p 0 = [] := rfl
    rw [e0]
    refine ⟨⟨fun e he => ?_, List.Pairwise.nil⟩, fun e he => ?_, fun y => ?_⟩
    · cases he
    · cases he
    · constructor
      · intro h
        simp [insB] at h
      · rintro ⟨h1, h2, _⟩
        omega
  | k + 1, hk => by
    have ih := spInv b p k (by omega)
    have hs := spansTo_succ (p := p) (show k < (allL b).length by omega)
    have hN : k < bookN b := by rw [← allL_len b]; omega
    have h3 : (allL b)[k]'(by omega) = (b.nlo + (k : Int), wrongN b (b.nlo + k)) := by
      have := allL_get hN
      rw [List.getElem?_eq_getElem (by omega)] at this
      exact Option.some.inj this
    rw [h3] at hs
    obtain ⟨⟨g1, g2⟩, i2, i3⟩ := ih
    rw [hs]
    unfold spanStep
    dsimp only
    generalize spansTo b p k = acc at *
    by_cases hp : p (wrongN b (b.nlo + k)) = true
    · rw [if_pos hp]
      have hnew : ∀ y, y = b.nlo + (k : Int) → p (wrongN b y) = true := fun y e => by rw [e]; exact hp
      rcases List.eq_nil_or_concat acc with rfl | ⟨ini, l, rfl⟩
      · simp only [List.getLast?_nil]
        refine ⟨⟨fun e he => ?_, List.pairwise_singleton _ _⟩, fun e he => ?_, fun y => ?_⟩
        · rw [List.mem_singleton.1 he]; exact Int.le_refl _
        · rw [List.mem_singleton.1 he]; dsimp only; omega
        · rw [insB_one]
          constructor
          · rintro ⟨h1, h2⟩
            dsimp only at h1 h2
            exact ⟨by omega, by omega, hnew y (by omega)⟩
          · rintro ⟨h1, h2, h4⟩
            dsimp only
            rcases (show y = b.nlo + (k : Int) ∨ y < b.nlo + (k : Int) by omega) with h | h
            · omega
            · have := (i3 y).2 ⟨h1, h, h4⟩
              simp [insB] at this
      · rw [List.concat_eq_append] at *
        simp only [List.getLast?_append, List.getLast?_singleton, Option.some_or, List.dropLast_concat]
        rw [List.pairwise_append] at g2
        obtain ⟨g2, _, g3⟩ := g2
        have hl := g1 l (by simp)
        have hl2 := i2 l (by simp)
        by_cases hq : l.2 = b.nlo + k - 1
        · rw [if_pos hq]
          refine ⟨⟨fun e he => ?_, ?_⟩, fun e he => ?_, fun y => ?_⟩
          · rcases List.mem_append.1 he with he | he
            · exact g1 e (by simp [he])
            · rw [List.mem_singleton.1 he]; dsimp only; omega
          · rw [List.pairwise_append]
            exact ⟨g2, List.pairwise_singleton _ _, fun a ha c hc => by rw [List.mem_singleton.1 hc]; exact g3 a ha l (by simp)⟩
          · rcases List.mem_append.1 he with he | he
            · have := i2 e (by simp [he]); omega
            · rw [List.mem_singleton.1 he]; dsimp only; omega
          · have h5 := i3 y
            rw [insB_app, Bool.or_eq_true, insB_one] at h5 ⊢
            dsimp only
            constructor
            · rintro (h | ⟨h1, h2⟩)
              · obtain ⟨h6, h7, h8⟩ := h5.1 (.inl h)
                exact ⟨h6, by omega, h8⟩
              · rcases (show y = b.nlo + (k : Int) ∨ y ≤ l.2 by omega) with h | h
                · exact ⟨by omega, by omega, hnew y h⟩
                · obtain ⟨h6, h7, h8⟩ := h5.1 (.inr ⟨h1, h⟩)
                  exact ⟨h6, by omega, h8⟩
            · rintro ⟨h1, h2, h4⟩
              rcases (show y = b.nlo + (k : Int) ∨ y < b.nlo + (k : Int) by omega) with h | h
              · exact .inr ⟨by omega, by omega⟩
              · rcases h5.2 ⟨h1, h, h4⟩ with h | h
                · exact .inl h
                · exact .inr ⟨h.1, by omega⟩
        · rw [if_neg hq]
          refine ⟨⟨fun e he => ?_, ?_⟩, fun e he => ?_, fun y => ?_⟩
          · rcases List.mem_append.1 he with he | he
            · exact g1 e he
            · rw [List.mem_singleton.1 he]; exact Int.le_refl _
          · rw [List.pairwise_append]
            refine ⟨?_, List.pairwise_singleton _ _, fun a ha c hc => ?_⟩
            · rw [List.pairwise_append]; exact ⟨g2, List.pairwise_singleton _ _, g3⟩
            · rw [List.mem_singleton.1 hc]
              dsimp only
              rcases List.mem_append.1 ha with ha | ha
              · have := g3 a ha l (by simp); omega
              · rw [List.mem_singleton.1 ha]; omega
          · rcases List.mem_append.1 he with he | he
            · have := i2 e he; omega
            · rw [List.mem_singleton.1 he]; dsimp only; omega
          · have h5 := i3 y
            rw [insB_app, Bool.or_eq_true, insB_one, h5]
            dsimp only
            constructor
            · rintro (⟨h6, h7, h8⟩ | ⟨h1, h2⟩)
              · exact ⟨h6, by omega, h8⟩
              · exact ⟨by omega, by omega, hnew y (by omega)⟩
            · rintro ⟨h1, h2, h4⟩
              rcases (show y = b.nlo + (k : Int) ∨ y < b.nlo + (k : Int) by omega) with h | h
              · exact .inr ⟨by omega, by omega⟩
              · exact .inl ⟨h1, h, h4⟩
    · rw [if_neg hp]
      refine ⟨⟨g1, g2⟩, fun e he => ?_, fun y => ?_⟩
      · have := i2 e he; omega
      · rw [i3 y]
        constructor
        · rintro ⟨h1, h2, h4⟩; exact ⟨h1, by omega, h4⟩
        · rintro ⟨h1, h2, h4⟩
          refine ⟨h1, ?_, h4⟩
          rcases (show y = b.nlo + (k : Int) ∨ y < b.nlo + (k : Int) by omega) with h | h
          · rw [h] at h4; exact absurd h4 hp
          · exact h
theorem spansInv {b : Wbk} (hb : BkOK b) (p : Nat → Bool) : GapsP (spansL b p) ∧ (∀ e ∈ spansL b p, b.nlo ≤ e.1 ∧ e.2 ≤ b.nhi) ∧ ∀ y, insB y (spansL b p) = true ↔ b.nlo ≤ y ∧ y ≤ b.nhi ∧ p (wrongN b y) = true := by
  have h := spInv b p (allL b).length (Nat.le_refl _)
  have e : spansTo b p (allL b).length = spansL b p := by unfold spansTo spansL; rw [List.take_length]
  rw [e] at h
  have hN : ((allL b).length : Int) = b.nhi + 1 - b.nlo := by
    rw [allL_len]; have := hb.n1; unfold bookN; omega
  refine ⟨h.gap, fun e he => ?_, fun y => ?_⟩
  · have := h.lo e he; omega
  · rw [h.cov y]
    constructor
    · rintro ⟨h1, h2, h3⟩; exact ⟨h1, by omega, h3⟩
    · rintro ⟨h1, h2, h3⟩; exact ⟨h1, by omega, h3⟩
theorem rep_rows {w : World} {N : Nat → Prop} {k : Nat} {rows rows' : List (List CV)} {v : Value} (hl : rows'.length = rows.length)
    (hr : ∀ (j : Nat) row row', rows[j]? = some row → rows'[j]? = some row' → row'.length = row.length ∧ row'.all CV.one = true ∧ ∀ (i : Nat) x y, row[i]? = some x → row'[i]? = some y → ∀ v, RepC w N x v → RepC w N y v)
    (h : RepC w N (.sl k rows) v) : RepC w N (.sl k rows') v := by
  have back : ∀ (j : Nat) row', rows'[j]? = some row' → ∃ row, rows[j]? = some row := fun j row' hj => by
    have hlt := (List.getElem?_eq_some_iff.1 hj).1
    exact ⟨rows[j]'(by omega), List.getElem?_eq_getElem _⟩
  cases h with
  | nil k a c h1 =>
    have : rows' = [] := List.length_eq_zero_iff.1 hl
    subst this
    exact .nil k a c h1
  | sl k rows b off c u h1 h2 h3 h4 h5 h6 h7 =>
    rw [← hl]
    refine .sl k rows' b off c u (by omega) h2 h3 h4 (fun j row' hj => ?_) (fun j row' i y hj hy => ?_) (fun j row' i y hj hy => ?_)
    · obtain ⟨row, hj0⟩ := back j row' hj
      obtain ⟨e1, e2, _⟩ := hr j row row' hj0 hj
      exact ⟨e1.trans (h5 j row hj0).1, e2⟩
    · obtain ⟨row, hj0⟩ := back j row' hj
      obtain ⟨e1, _, _⟩ := hr j row row' hj0 hj
      have hi := (List.getElem?_eq_some_iff.1 hy).1
      exact h6 j row i _ hj0 (List.getElem?_eq_getElem (by omega))
    · obtain ⟨row, hj0⟩ := back j row' hj
      obtain ⟨e1, _, e3⟩ := hr j row row' hj0 hj
      have hi := (List.getElem?_eq_some_iff.1 hy).1
      have hx := List.getElem?_eq_getElem (l := row) (i := i) (by omega)
      exact e3 i _ y hx hy _ (h7 j row i _ hj0 hx)
theorem rep_nil {w : World} {N : Nat → Prop} {v : Value} (k : Nat) (h : RepC w N (.val (.slice none 0 0)) v) : RepC w N (.sl k []) v := (CLe.nil k).rep h
def rowNil (s : Wsrc) : List CV := [I s.kind, I s.elo, I s.ehi, I s.at', I s.dlo, I s.dhi, I s.every, .val (.slice none 0 0)]
theorem rep_nils {w : World} {N : Nat → Prop} {l : List Wsrc} (hl : ∀ s ∈ l, s.table = []) {v : Value} (h : RepC w N (.sl 8 (l.map rowNil)) v) : RepC w N (slSr l) v := by
  unfold slSr
  refine rep_rows (by simp) (fun j row row' h1 h2 => ?_) h
  rw [List.getElem?_map, Option.map_eq_some_iff] at h1 h2
  obtain ⟨s, e1, rfl⟩ := h1
  obtain ⟨s', e2, rfl⟩ := h2
  rw [e1] at e2; cases e2
  have ht := hl s (List.mem_of_getElem? e1)
  refine ⟨rfl, by simp, fun i x y hx hy v hv => ?_⟩
  unfold rowNil at hx
  unfold rowSr at hy
  rw [ht] at hy
  rcases i with _ | _ | _ | _ | _ | _ | _ | _ | i
  · simp at hx hy; subst hx; subst hy; exact hv
  · simp at hx hy; subst hx; subst hy; exact hv
  · simp at hx hy; subst hx; subst hy; exact hv
  · simp at hx hy; subst hx; subst hy; exact hv
  · simp at hx hy; subst hx; subst hy; exact hv
  · simp at hx hy; subst hx; subst hy; exact hv
  · simp at hx hy; subst hx; subst hy; exact hv
  · simp at hx hy; subst hx; subst hy; exact rep_nil 1 hv
  · simp at hx
def threeW : List Wsrc := [⟨2, 0, 1, 3600, 0, 0, 86400, []⟩, ⟨4, 2, 5, 0, 0, 0, 0, []⟩, ⟨1, -1, 1, 0, 0, 2000, 0, []⟩]
def notesW (x : Int) : List Wnt := [⟨0, 3500, 0⟩, ⟨1, 7000, 7098⟩, ⟨2, 86300, x⟩]
def exB (l : List Wnt) : Wbk := ⟨threeW, threeW.map errOf, l, 0, 200⟩
theorem ex_two : newErr threeW (notesW 2) 0 200 = 0 := by decide +kernel
theorem ex_far : newErr threeW (notesW 40) 0 200 = 0 := by decide +kernel
theorem ex_bk {l : List Wnt} (h : newErr threeW l 0 200 = 0) : newBk threeW l 0 200 = exB l := (new_ok h).1
theorem ex_s2 : spansL (exB (notesW 2)) (fun m => decide (m = 0)) = [(100, 101)] := by decide +kernel
theorem ex_f : fewN (exB (notesW 40)) = 1 := by decide +kernel
theorem ex_l : (leastS (exB (notesW 40))).map numsL = [[2]] := by
  unfold leastS
  rw [ex_f]
  decide +kernel
theorem ex_ll : leastL (exB (notesW 40)) = [[2]] := by
  unfold leastL sortL
  rw [ex_l]
  simp
end Go.Proofs.YtlodpljdhdhfmaaGreat
/- A clock beside two signals. -/
namespace Go.Proofs.YtlodpljdhdhfmaaGreat
open Go.RowKit
def sigW : Wsrc := ⟨4, 0, 0, 0, 0, 0, 0, []⟩
def armW (s : Wsrc) : List Wsrc := [s, sigW, sigW]
def armN (ts sa by' g1 g2 : Int) : List Wnt := [⟨0, ts, sa⟩, ⟨1, g1 - by', g1⟩, ⟨2, g2 - by', g2⟩]
def armB (s : Wsrc) (l : List Wnt) (lo hi : Int) : Wbk := ⟨armW s, (armW s).map errOf, l, lo, hi⟩
theorem gaps_none {l : List (Int × Int)} (hg : GapsP l) (h : ∀ z, insB z l = false) : l = [] := by
  match l with
  | [] => rfl
  | e :: r =>
    have a := hg.1 e (by simp)
    have q1 : insB e.1 (e :: r) = true := List.any_eq_true.2 ⟨e, by simp, by simp; exact a⟩
    rw [h] at q1; cases q1
theorem arm_at (s : Wsrc) (ts sa by' g1 g2 lo hi y : Int) (h2 : g1 ≤ 3155700000) (h3 : 0 ≤ g1) (h4 : g2 ≤ 3155700000) (h5 : 0 ≤ g2) :
    wrongN (armB s (armN ts sa by' g1 g2) lo hi) y = if y = by' then (if rightN (armB s (armN ts sa by' g1 g2) lo hi) ⟨0, ts, sa⟩ y = true then 0 else 1) else (if rightN (armB s (armN ts sa by' g1 g2) lo hi) ⟨0, ts, sa⟩ y = true then 6 else 7) := by
  generalize hB : armB s (armN ts sa by' g1 g2) lo hi = b
  have e1 : rightN b ⟨1, g1 - by', g1⟩ y = decide (y = by') := by
    rw [← hB]
    unfold rightN armB armW rightB signalR within1 errOf sigW
    rw [Bool.eq_iff_iff]
    simp
    omega
  have e2 : rightN b ⟨2, g2 - by', g2⟩ y = decide (y = by') := by
    rw [← hB]
    unfold rightN armB armW rightB signalR within1 errOf sigW
    rw [Bool.eq_iff_iff]
    simp
    omega
  have e : wrongN b y = [(⟨0, ts, sa⟩ : Wnt), ⟨1, g1 - by', g1⟩, ⟨2, g2 - by', g2⟩].foldl (fun a n => if rightN b n y = true then a else a ||| 2 ^ n.src.toNat) 0 := by
    rw [← hB]; rfl
  rw [e]
  simp only [List.foldl_cons, List.foldl_nil, e1, e2, decide_eq_true_eq]
  by_cases hy : y = by' <;> by_cases hr : rightN b ⟨0, ts, sa⟩ y = true <;> simp [hy, hr]
structure ArmOk (s : Wsrc) (ts sa by' g1 g2 lo hi : Int) : Prop where
  err : newErr (armW s) (armN ts sa by' g1 g2) lo hi = 0
  g1 : 0 ≤ g1 ∧ g1 ≤ 3155700000
  g2 : 0 ≤ g2 ∧ g2 ≤ 3155700000
  at' : lo ≤ by' ∧ by' ≤ hi
theorem arm_bk {s : Wsrc} {ts sa by' g1 g2 lo hi : Int} (h : ArmOk s ts sa by' g1 g2 lo hi) : newBk (armW s) (armN ts sa by' g1 g2) lo hi = armB s (armN ts sa by' g1 g2) lo hi := (new_ok h.err).1
theorem arm_ok {s : Wsrc} {ts sa by' g1 g2 lo hi : Int} (h : ArmOk s ts sa by' g1 g2 lo hi) : BkOK (armB s (armN ts sa by' g1 g2) lo hi) := by rw [← arm_bk h]; exact new_bk h.err
theorem nodup_ones : ∀ {l : List Nat}, l.Nodup → (∀ x ∈ l, x = 1) → 1 ∈ l → l = [1]
  | [], _, _, h => by cases h
  | [a], _, h, _ => by rw [h a (by simp)]
  | a :: b :: r, hn, h, _ => by
    rw [h a (by simp), h b (by simp)] at hn
    simp at hn
theorem pop_6 : popN 6 = 2 := by decide
theorem pop_7 : popN 7 = 3 := by decide
theorem pop_1 : popN 1 = 1 := by decide
theorem nums_1 : numsL 1 = [0] := by decide +kernel
theorem arm_wrong {s : Wsrc} {ts sa by' g1 g2 lo hi : Int} (h : ArmOk s ts sa by' g1 g2 lo hi) (hr : rightN (armB s (armN ts sa by' g1 g2) lo hi) ⟨0, ts, sa⟩ by' = false) :
    spansL (armB s (armN ts sa by' g1 g2) lo hi) (fun m => decide (m = 0)) = [] ∧ leastL (armB s (armN ts sa by' g1 g2) lo hi) = [[0]] := by
  have hb := arm_ok h
  have h1 := h.g1
  have h2 := h.g2
  have h3 := h.at'
  have hw : ∀ y, wrongN (armB s (armN ts sa by' g1 g2) lo hi) y = _ := fun y => arm_at s ts sa by' g1 g2 lo hi y h1.2 h1.1 h2.2 h2.1
  have h0 : wrongN (armB s (armN ts sa by' g1 g2) lo hi) by' = 1 := by rw [hw, if_pos rfl, if_neg (by rw [hr]; decide)]
  have hc : ∀ y, wrongN (armB s (armN ts sa by' g1 g2) lo hi) y = 1 ∨ wrongN (armB s (armN ts sa by' g1 g2) lo hi) y = 6 ∨ wrongN (armB s (armN ts sa by' g1 g2) lo hi) y = 7 := fun y => by
    by_cases hy : y = by'
    · rw [hy]; exact .inl h0
    · rw [hw, if_neg hy]
      split
      · exact .inr (.inl rfl)
      · exact .inr (.inr rfl)
  have hs : 1 ∈ setsL (armB s (armN ts sa by' g1 g2) lo hi) := mem_setsL.2 ⟨(by', 1), mem_allL.2 ⟨h3.1, h3.2, h0.symm⟩, rfl⟩
  have hsc : ∀ x ∈ setsL (armB s (armN ts sa by' g1 g2) lo hi), x = 1 ∨ x = 6 ∨ x = 7 := fun x hx => by
    obtain ⟨y, hy, rfl⟩ := mem_setsL.1 hx
    have := (mem_allL.1 hy).2.2
    rw [this]
    exact hc y.1
  have hf : fewN (armB s (armN ts sa by' g1 g2) lo hi) = 1 := by
    have a := (minU_le (setsL (armB s (armN ts sa by' g1 g2) lo hi)) (armB s (armN ts sa by' g1 g2) lo hi).srcs.length).2 1 hs
    rw [pop_1] at a
    unfold fewN
    rcases minU_at (setsL (armB s (armN ts sa by' g1 g2) lo hi)) (armB s (armN ts sa by' g1 g2) lo hi).srcs.length with e | ⟨x, hx, e⟩
    · have : (armB s (armN ts sa by' g1 g2) lo hi).srcs.length = 3 := rfl
      omega
    · rcases hsc x hx with r | r | r <;> subst r
      · rw [pop_1] at e; omega
      · rw [pop_6] at e; omega
      · rw [pop_7] at e; omega
  have hl : leastS (armB s (armN ts sa by' g1 g2) lo hi) = [1] := by
    unfold leastS
    rw [hf]
    refine nodup_ones ((setsL_nodup _).sublist List.filter_sublist) (fun x hx => ?_) (List.mem_filter.2 ⟨hs, by rw [pop_1]; rfl⟩)
    obtain ⟨x1, x2⟩ := List.mem_filter.1 hx
    rw [decide_eq_true_eq] at x2
    rcases hsc x x1 with r | r | r <;> subst r
    · rfl
    · rw [pop_6] at x2; cases x2
    · rw [pop_7] at x2; cases x2
  obtain ⟨p1, p2, p3⟩ := spansInv hb (fun m => decide (m = 0))
  refine ⟨gaps_none p1 fun z => ?_, ?_⟩
  · rw [← Bool.not_eq_true]
    intro hz
    have := ((p3 z).1 hz).2.2
    rw [decide_eq_true_eq] at this
    rcases hc z with r | r | r <;> omega
  · unfold leastL sortL
    rw [hl]
    simp [nums_1]
end Go.Proofs.YtlodpljdhdhfmaaGreat
/- A clock beside two signals: what Fits and Convict answer. -/
namespace Go.Proofs.YtlodpljdhdhfmaaGreat
open Go.RowKit
theorem arm_len (s : Wsrc) (h : s.table.length ≤ 1000000) : WLen (armW s) := ⟨fun x hx => by
  unfold armW sigW at hx
  rcases List.mem_cons.1 hx with rfl | hx
  · exact h
  rcases List.mem_cons.1 hx with rfl | hx
  · simp
  rcases List.mem_cons.1 hx with rfl | hx
  · simp
  · cases hx⟩
section
variable {s : Wsrc} {ts sa by' g1 g2 lo hi : Int}
theorem arm_convict (h : ArmOk s ts sa by' g1 g2 lo hi) (hl : s.table.length ≤ 1000000) (hr : rightN (armB s (armN ts sa by' g1 g2) lo hi) ⟨0, ts, sa⟩ by' = false) :
    SC Tryz.prog 23 [slSr (armW s), slN (armN ts sa by' g1 g2), .agg [I lo, I hi]] (.tup [I 0, I 0]) := by
  have q := sConvict (armW s) (arm_len s hl) (armN ts sa by' g1 g2) (by simp [armN]) lo hi
  rw [if_pos h.err, if_pos h.err, arm_bk h, (arm_wrong h hr).2] at q
  exact q
end
def clkW (el eh dl dh : Int) : Wsrc := ⟨1, el, eh, 0, dl, dh, 0, []⟩
theorem arm_err {el eh dl dh ts sa by' g1 g2 lo hi : Int} (e0 : -3600 ≤ el) (e1 : el ≤ eh) (e2 : eh ≤ 3600) (d0 : -100000 ≤ dl) (d1 : dl ≤ dh) (d2 : dh ≤ 100000) (t0 : 0 ≤ ts) (t1 : ts ≤ 3155700000) (s0 : 0 ≤ sa) (s1 : sa < 43200)
    (a0 : 0 ≤ g1 - by') (a1 : g1 - by' ≤ 3155700000) (b0 : 0 ≤ g2 - by') (b1 : g2 - by' ≤ 3155700000) (a2 : 0 ≤ g1) (a3 : g1 ≤ 3155700000) (b2 : 0 ≤ g2) (b3 : g2 ≤ 3155700000) (l0 : -7200 ≤ lo) (l1 : lo ≤ by') (l2 : by' ≤ hi) (l3 : hi ≤ 7200) :
    ArmOk (clkW el eh dl dh) ts sa by' g1 g2 lo hi := by
  refine ⟨?_, ⟨a2, a3⟩, ⟨b2, b3⟩, l1, l2⟩
  have v1 : validV (clkW el eh dl dh) = true := by
    unfold validV baseV useV clkW clockV kindOK spanW within1
    simp; omega
  have v2 : validV sigW = true := by decide
  have n1 : noteErr (armW (clkW el eh dl dh)) ⟨0, ts, sa⟩ = 0 := by
    unfold noteErr armW clkW sigW saidB within1
    simp; omega
  have n2 : noteErr (armW (clkW el eh dl dh)) ⟨1, g1 - by', g1⟩ = 0 := by
    unfold noteErr armW clkW sigW saidB within1
    simp; omega
  have n3 : noteErr (armW (clkW el eh dl dh)) ⟨2, g2 - by', g2⟩ = 0 := by
    unfold noteErr armW clkW sigW saidB within1
    simp; omega
  have hn : notesErr (armW (clkW el eh dl dh)) (armN ts sa by' g1 g2) = 0 := by
    unfold notesErr armN
    simp [n1, n2, n3]
  have ha : (armW (clkW el eh dl dh)).all validV = true := by
    unfold armW
    simp [v1, v2]
  have hz : sizeW (armW (clkW el eh dl dh)) = true := by
    unfold sizeW armW; simp [within1]
  have hsp : spanW lo hi 7200 = true := by unfold spanW; simp; omega
  unfold newErr
  rw [if_neg (by rw [hz]; simp), if_neg (by rw [ha]; simp), if_neg (by simp [armN]), if_neg (by simp [hn]), if_pos hsp]
theorem arm_clk {el eh ts sa by' g1 g2 lo hi : Int} : rightN (armB (clkW el eh 0 0) (armN ts sa by' g1 g2) lo hi) ⟨0, ts, sa⟩ by' = (within1 0 3155760000 (ts + by') && (decide (0 ≤ ts + by') && decide ((sa - (ts + by') - el) % 43200 ≤ eh - el))) := by
  unfold rightN armB armW rightB clkW errOf clockR clLo clHi upI
  simp
end Go.Proofs.YtlodpljdhdhfmaaGreat
/- The shadow code of functions, as the kit's translation has them. -/
namespace Go.Proofs.YtlodpljdhdhfmaaGreat
open Go.RowKit
def k70_0 : SCode := .reg [⟨some 3, none, .box 70 (.tmp 0), [], false⟩, ⟨some 6, none, .mov (.const (.bool false)), [], false⟩] [1, 2, 3]
def k70_1 : SCode := .reg [⟨some 19, none, .build [(.int .i64 0), (.int .i64 0), (.int .i64 0)] [(0, 1, (.const (.int .i64 1))), (1, 1, (.const (.int .i64 20))), (2, 1, (.const (.int .i64 60)))], [], false⟩, ⟨some 20, none, .idxA 5 1 (.tmp 3) (.const (.int .i64 0)), [], true⟩, ⟨some 21, none, .load false 1 (.tmp 20), [], true⟩, ⟨some 22, none, .bin .rem (.tmp 21) (.const (.int .u8 3)), [], false⟩, ⟨some 23, none, .index 3 1 false (.tmp 19) (.tmp 22), [], false⟩, ⟨some 24, none, .idxA 5 1 (.tmp 3) (.const (.int .i64 1)), [], true⟩, ⟨some 25, none, .load false 1 (.tmp 24), [], true⟩, ⟨some 26, none, .conv .i64 (.tmp 25), [], false⟩, ⟨some 27, none, .un .neg (.tmp 26), [], false⟩, ⟨some 28, none, .bin .rem (.tmp 27) (.const (.int .i64 30)), [], false⟩, ⟨some 29, none, .idxA 5 1 (.tmp 3) (.const (.int .i64 2)), [], true⟩, ⟨some 30, none, .load false 1 (.tmp 29), [], true⟩, ⟨some 31, none, .conv .i64 (.tmp 30), [], false⟩, ⟨some 32, none, .bin .rem (.tmp 31) (.const (.int .i64 30)), [], false⟩, ⟨some 33, none, .call 12 [(.tmp 28), (.tmp 32)], [], true⟩, ⟨some 34, none, .idxA 5 1 (.tmp 3) (.const (.int .i64 3)), [], true⟩, ⟨some 35, none, .load false 1 (.tmp 34), [], true⟩, ⟨some 36, none, .conv .i64 (.tmp 35), [], false⟩, ⟨some 37, none, .bin .rem (.tmp 36) (.const (.int .i64 20)), [], false⟩, ⟨some 38, none, .idxA 5 1 (.tmp 3) (.const (.int .i64 4)), [], true⟩, ⟨some 39, none, .load false 1 (.tmp 38), [], true⟩, ⟨some 40, none, .conv .i64 (.tmp 39), [], false⟩, ⟨some 41, none, .bin .sub (.tmp 40) (.const (.int .i64 128)), [], false⟩, ⟨some 42, none, .call 17 [(.tmp 37), (.tmp 41), (.const (.int .i64 15))], [], true⟩, ⟨some 43, none, .buildSl 59 5 [(.int .i64 0), (.int .i64 0), (.slice none 0 0), (.int .i64 0), (.int .i64 0)] 1 [(0, (.tmp 42))], [1, 2], false⟩, ⟨some 44, none, .build [(.int .i64 0), (.int .i64 0), (.int .i64 0), (.slice none 0 0)] [(0, 1, (.tmp 23)), (1, 2, (.tmp 33)), (3, 1, (.tmp 43))], [], false⟩, ⟨some 7, none, .alloc 63 [(.int .i64 0), (.int .i64 0), (.int .i64 0), (.slice none 0 0)], [1, 2, 5, 6, 10, 11, 14, 15, 16, 19, 20, 23], false⟩, ⟨none, none, .store 4 (.tmp 7) (.tmp 44), [], false⟩] [1, 2, 3, 7]
def k70_2 : SCode := .reg [⟨some 45, none, .mov (.tmp 1), [], false⟩, ⟨some 46, none, .conv .i64 (.tmp 45), [], false⟩, ⟨some 47, none, .bin .add (.tmp 46) (.const (.int .i64 1000)), [], false⟩, ⟨some 48, none, .idxA 5 1 (.tmp 3) (.const (.int .i64 2)), [], false⟩, ⟨some 49, none, .load false 1 (.tmp 48), [], false⟩, ⟨some 50, none, .conv .i64 (.tmp 49), [], false⟩, ⟨some 51, none, .un .neg (.tmp 50), [], false⟩, ⟨some 52, none, .bin .rem (.tmp 51) (.const (.int .i64 40)), [], false⟩, ⟨some 53, none, .idxA 5 1 (.tmp 3) (.const (.int .i64 1)), [], false⟩, ⟨some 54, none, .load false 1 (.tmp 53), [], false⟩, ⟨some 55, none, .conv .i64 (.tmp 54), [], false⟩, ⟨some 56, none, .bin .rem (.tmp 55) (.const (.int .i64 40)), [], false⟩, ⟨some 57, none, .call 12 [(.tmp 52), (.tmp 56)], [], false⟩, ⟨some 9, none, .alloc 34 [(.int .i64 0), (.int .i64 0)], [], false⟩, ⟨some 8, none, .mov (.tmp 47), [], false⟩, ⟨none, none, .store 2 (.tmp 9) (.tmp 57), [], false⟩] [2, 7, 8, 9]
def k70_3 : SCode := .reg [⟨some 59, none, .load true 4 (.tmp 7), [], false⟩, ⟨some 60, none, .mov (.tmp 8), [], false⟩, ⟨some 61, none, .load true 2 (.tmp 9), [], false⟩, ⟨some 62, none, .call 18 [(.tmp 59), (.const (.int .i64 0)), (.tmp 60), (.tmp 61)], [], false⟩, ⟨some 58, none, .mov (.tmp 62), [], false⟩, ⟨some 63, none, .ext (.tmp 58) 0, [], false⟩, ⟨some 64, none, .ext (.tmp 58) 1, [], false⟩, ⟨some 10, none, .alloc 34 [(.int .i64 0), (.int .i64 0)], [], false⟩, ⟨none, none, .store 2 (.tmp 10) (.tmp 63), [], false⟩, ⟨some 11, none, .mov (.tmp 64), [], false⟩] [2, 7, 8, 9, 10, 11]
def k70_4 : SCode := .reg [⟨some 66, none, .load true 4 (.tmp 7), [], false⟩, ⟨some 67, none, .mov (.tmp 8), [], false⟩, ⟨some 68, none, .load true 2 (.tmp 9), [], false⟩, ⟨some 69, none, .call 19 [(.tmp 66), (.const (.int .i64 0)), (.tmp 67), (.tmp 68)], [], false⟩, ⟨some 65, none, .mov (.tmp 69), [], false⟩, ⟨some 70, none, .ext (.tmp 65) 0, [], false⟩, ⟨some 71, none, .ext (.tmp 65) 1, [], false⟩, ⟨some 12, none, .mov (.tmp 70), [], false⟩, ⟨some 13, none, .mov (.tmp 71), [], false⟩] [2, 8, 10, 11, 12, 13]
def k70_5 : SCode := .reg [⟨some 72, none, .mov (.tmp 11), [], false⟩, ⟨some 73, none, .bin .neq (.tmp 72) (.const (.int .i64 0)), [], false⟩, ⟨some 74, none, .mov (.tmp 73), [], false⟩, ⟨some 75, (some (74, false)), .mov (.tmp 13), [], false⟩, ⟨some 76, (some (74, false)), .bin .neq (.tmp 75) (.const (.int .i64 0)), [], false⟩, ⟨some 77, none, .pick (.tmp 74) (.const (.bool true)) (.tmp 76), [], false⟩, ⟨some 78, none, .mov (.tmp 77), [], false⟩, ⟨some 79, (some (78, false)), .fld 0 (.tmp 10), [], false⟩, ⟨some 80, (some (78, false)), .load false 1 (.tmp 79), [], false⟩, ⟨some 81, (some (78, false)), .fld 1 (.tmp 10), [], false⟩, ⟨some 82, (some (78, false)), .load false 1 (.tmp 81), [], false⟩, ⟨some 83, (some (78, false)), .bin .gtr (.tmp 80) (.tmp 82), [], false⟩, ⟨some 84, none, .pick (.tmp 78) (.const (.bool true)) (.tmp 83), [], false⟩, ⟨some 85, none, .mov (.tmp 84), [], false⟩, ⟨some 86, (some (85, false)), .fld 0 (.tmp 10), [], false⟩, ⟨some 87, (some (85, false)), .load false 1 (.tmp 86), [], false⟩, ⟨some 88, (some (85, false)), .bin .lss (.tmp 87) (.const (.int .i64 (-600))), [], false⟩, ⟨some 89, none, .pick (.tmp 85) (.const (.bool true)) (.tmp 88), [], false⟩, ⟨some 90, none, .mov (.tmp 89), [], false⟩, ⟨some 91, (some (90, false)), .fld 1 (.tmp 10), [], false⟩, ⟨some 92, (some (90, false)), .load false 1 (.tmp 91), [], false⟩, ⟨some 93, (some (90, false)), .bin .gtr (.tmp 92) (.const (.int .i64 600)), [], false⟩, ⟨some 94, none, .pick (.tmp 90) (.const (.bool true)) (.tmp 93), [], false⟩] [2, 8, 10, 12, 94]
def k70_6 : SCode := .reg [⟨some 6, none, .mov (.const (.bool false)), [], false⟩] [6]
def k70_7 : SCode := .seq k70_6 .ret
def k70_8 : SCode := .cond (.tmp 94) k70_7 .skip
def k70_9 : SCode := .seq k70_5 k70_8
def k70_10 : SCode := .reg [⟨some 95, none, .load true 2 (.tmp 10), [], false⟩, ⟨some 96, none, .build [(.int .i64 0), (.int .i64 0), (.int .i64 0), (.int .i64 0), (.int .i64 0), (.int .i64 0), (.int .i64 0), (.slice none 0 0)] [(0, 1, (.const (.int .i64 1))), (1, 2, (.tmp 95))], [], false⟩, ⟨some 97, none, .build [(.int .i64 0), (.int .i64 0), (.int .i64 0), (.int .i64 0), (.int .i64 0), (.int .i64 0), (.int .i64 0), (.slice none 0 0)] [(0, 1, (.const (.int .i64 4)))], [], false⟩, ⟨some 98, none, .build [(.int .i64 0), (.int .i64 0), (.int .i64 0), (.int .i64 0), (.int .i64 0), (.int .i64 0), (.int .i64 0), (.slice none 0 0)] [(0, 1, (.const (.int .i64 4)))], [], false⟩, ⟨some 99, none, .buildSl 75 8 [(.int .i64 0), (.int .i64 0), (.int .i64 0), (.int .i64 0), (.int .i64 0), (.int .i64 0), (.int .i64 0), (.slice none 0 0)] 3 [(0, (.tmp 96)), (1, (.tmp 97)), (2, (.tmp 98))], [], false⟩, ⟨some 14, none, .mov (.tmp 99), [], false⟩] [2, 8, 10, 12, 14]
def k70_11 : SCode := .reg [⟨some 15, none, .mov (.const (.int .i64 0)), [], false⟩] [2, 8, 10, 12, 14, 15]
def k70_12 : SCode := .reg [⟨some 100, none, .mov (.tmp 15), [], false⟩, ⟨some 101, none, .mov (.tmp 12), [], false⟩, ⟨some 102, none, .len (.tmp 101), [], false⟩, ⟨some 103, none, .bin .lss (.tmp 100) (.tmp 102), [], false⟩] [2, 8, 10, 12, 14, 15, 103]
def k70_13 : SCode := .cond (.tmp 103) .skip (.exit 0)
def k70_14 : SCode := .seq k70_12 k70_13
def k70_15 : SCode := .reg [⟨some 106, none, .mov (.tmp 14), [], false⟩, ⟨some 107, none, .idxS 8 (.tmp 106) (.const (.int .i64 0)), [], false⟩, ⟨some 108, none, .load true 8 (.tmp 107), [], false⟩, ⟨some 109, none, .mov (.tmp 8), [], false⟩, ⟨some 110, none, .mov (.tmp 12), [], false⟩, ⟨some 111, none, .mov (.tmp 15), [], false⟩, ⟨some 112, none, .idxS 2 (.tmp 110) (.tmp 111), [], false⟩, ⟨some 113, none, .fld 0 (.tmp 112), [], false⟩, ⟨some 114, none, .load false 1 (.tmp 113), [], false⟩, ⟨some 115, none, .call 22 [(.tmp 114), (.const (.int .i64 43200))], [], false⟩, ⟨some 116, none, .call 21 [(.tmp 108), (.tmp 109), (.tmp 115), (.const (.int .i64 0))], [], false⟩, ⟨some 117, none, .un .not (.tmp 116), [], false⟩, ⟨some 118, none, .mov (.tmp 117), [], false⟩, ⟨some 119, (some (118, false)), .mov (.tmp 14), [], false⟩, ⟨some 120, (some (118, false)), .idxS 8 (.tmp 119) (.const (.int .i64 0)), [], false⟩, ⟨some 121, (some (118, false)), .load true 8 (.tmp 120), [], false⟩, ⟨some 122, (some (118, false)), .mov (.tmp 8), [], false⟩, ⟨some 123, (some (118, false)), .mov (.tmp 12), [], false⟩, ⟨some 124, (some (118, false)), .mov (.tmp 15), [], false⟩, ⟨some 125, (some (118, false)), .idxS 2 (.tmp 123) (.tmp 124), [], false⟩, ⟨some 126, (some (118, false)), .fld 1 (.tmp 125), [], false⟩, ⟨some 127, (some (118, false)), .load false 1 (.tmp 126), [], false⟩, ⟨some 128, (some (118, false)), .call 22 [(.tmp 127), (.const (.int .i64 43200))], [], false⟩, ⟨some 129, (some (118, false)), .call 21 [(.tmp 121), (.tmp 122), (.tmp 128), (.const (.int .i64 0))], [], false⟩, ⟨some 130, (some (118, false)), .un .not (.tmp 129), [], false⟩, ⟨some 131, none, .pick (.tmp 118) (.const (.bool true)) (.tmp 130), [], false⟩] [2, 8, 10, 12, 14, 15, 131]
def k70_16 : SCode := .reg [⟨some 6, none, .mov (.const (.bool false)), [], false⟩] [6]
def k70_17 : SCode := .seq k70_16 .ret
def k70_18 : SCode := .cond (.tmp 131) k70_17 .skip
def k70_19 : SCode := .seq k70_15 k70_18
def k70_20 : SCode := .block 1 k70_19
def k70_21 : SCode := .reg [⟨some 104, none, .mov (.tmp 15), [], false⟩, ⟨some 105, none, .bin .add (.tmp 104) (.const (.int .i64 1)), [], false⟩, ⟨some 15, none, .mov (.tmp 105), [], false⟩] [2, 8, 10, 12, 14, 15]
def k70_22 : SCode := .seq k70_20 k70_21
def k70_23 : SCode := .seq k70_14 k70_22
def k70_24 : SCode := .loop k70_23
def k70_25 : SCode := .block 0 k70_24
def k70_26 : SCode := .seq k70_11 k70_25
def k70_27 : SCode := .reg [⟨some 132, none, .mov (.tmp 8), [], false⟩, ⟨some 133, none, .fld 1 (.tmp 10), [], false⟩, ⟨some 134, none, .load false 1 (.tmp 133), [], false⟩, ⟨some 135, none, .bin .add (.tmp 132) (.tmp 134), [], false⟩, ⟨some 136, none, .bin .add (.tmp 135) (.const (.int .i64 1)), [], false⟩, ⟨some 137, none, .mov (.tmp 2), [], false⟩, ⟨some 138, none, .conv .i64 (.tmp 137), [], false⟩, ⟨some 139, none, .bin .rem (.tmp 138) (.const (.int .i64 180)), [], false⟩, ⟨some 140, none, .bin .add (.tmp 136) (.tmp 139), [], false⟩, ⟨some 141, none, .call 22 [(.tmp 140), (.const (.int .i64 43200))], [], false⟩, ⟨some 16, none, .mov (.tmp 141), [], false⟩] [8, 12, 14, 16]
def k70_28 : SCode := .reg [⟨some 143, none, .mov (.tmp 14), [], false⟩, ⟨some 144, none, .mov (.tmp 8), [], false⟩, ⟨some 145, none, .mov (.tmp 16), [], false⟩, ⟨some 146, none, .build [(.int .i64 0), (.int .i64 0), (.int .i64 0)] [(1, 1, (.tmp 144)), (2, 1, (.tmp 145))], [], false⟩, ⟨some 147, none, .mov (.tmp 8), [], false⟩, ⟨some 148, none, .mov (.tmp 8), [], false⟩, ⟨some 149, none, .build [(.int .i64 0), (.int .i64 0), (.int .i64 0)] [(0, 1, (.const (.int .i64 1))), (1, 1, (.tmp 147)), (2, 1, (.tmp 148))], [], false⟩, ⟨some 150, none, .mov (.tmp 8), [], false⟩, ⟨some 151, none, .bin .add (.tmp 150) (.const (.int .i64 9)), [], false⟩, ⟨some 152, none, .mov (.tmp 8), [], false⟩, ⟨some 153, none, .bin .add (.tmp 152) (.const (.int .i64 9)), [], false⟩, ⟨some 154, none, .build [(.int .i64 0), (.int .i64 0), (.int .i64 0)] [(0, 1, (.const (.int .i64 2))), (1, 1, (.tmp 151)), (2, 1, (.tmp 153))], [], false⟩, ⟨some 155, none, .buildSl 81 3 [(.int .i64 0), (.int .i64 0), (.int .i64 0)] 3 [(0, (.tmp 146)), (1, (.tmp 149)), (2, (.tmp 154))], [], false⟩, ⟨some 156, none, .call 12 [(.const (.int .i64 (-50))), (.const (.int .i64 50))], [], false⟩, ⟨some 157, none, .call 23 [(.tmp 143), (.tmp 155), (.tmp 156)], [], false⟩, ⟨some 142, none, .mov (.tmp 157), [], false⟩, ⟨some 158, none, .ext (.tmp 142) 0, [], false⟩, ⟨some 159, none, .ext (.tmp 142) 1, [], false⟩, ⟨some 17, none, .mov (.tmp 158), [], false⟩, ⟨some 18, none, .mov (.tmp 159), [], false⟩] [12, 17, 18]
def k70_29 : SCode := .reg [⟨some 160, none, .mov (.tmp 12), [], false⟩, ⟨some 161, none, .len (.tmp 160), [], false⟩, ⟨some 162, none, .bin .gtr (.tmp 161) (.const (.int .i64 0)), [], false⟩, ⟨some 163, none, .mov (.tmp 162), [], false⟩, ⟨some 164, (some (163, true)), .mov (.tmp 18), [], false⟩, ⟨some 165, (some (163, true)), .bin .eql (.tmp 164) (.const (.int .i64 0)), [], false⟩, ⟨some 166, none, .pick (.tmp 163) (.tmp 165) (.const (.bool false)), [], false⟩, ⟨some 167, none, .mov (.tmp 166), [], false⟩, ⟨some 168, (some (167, true)), .mov (.tmp 17), [], false⟩, ⟨some 169, (some (167, true)), .bin .eql (.tmp 168) (.const (.int .i64 0)), [], false⟩, ⟨some 170, none, .pick (.tmp 167) (.tmp 169) (.const (.bool false)), [], false⟩, ⟨some 171, none, .mov (.tmp 170), [], false⟩, ⟨some 172, (some (171, true)), .call 16 [], [], false⟩, ⟨some 173, none, .pick (.tmp 171) (.tmp 172) (.const (.bool false)), [], false⟩, ⟨some 174, none, .mov (.tmp 173), [], false⟩, ⟨some 175, (some (174, true)), .call 24 [], [], false⟩, ⟨some 176, none, .pick (.tmp 174) (.tmp 175) (.const (.bool false)), [], false⟩, ⟨some 6, none, .mov (.tmp 176), [], false⟩] [6]
def k70_30 : SCode := .seq k70_29 .ret
def k70_31 : SCode := .seq k70_28 k70_30
def k70_32 : SCode := .seq k70_27 k70_31
def k70_33 : SCode := .seq k70_26 k70_32
def k70_34 : SCode := .seq k70_10 k70_33
def k70_35 : SCode := .seq k70_9 k70_34
def k70_36 : SCode := .seq k70_4 k70_35
def k70_37 : SCode := .seq k70_3 k70_36
def k70_38 : SCode := .seq k70_2 k70_37
def k70_39 : SCode := .seq k70_1 k70_38
def k70_40 : SCode := .seq k70_0 k70_39
@[simp] def rs_turrettop_TopDialWire : List SRes := [.tmp 6]
theorem law_turrettop_TopDialWire (cs : List CV) (r : CV) (hl : cs.length ≤ 177) (h : STri (cfF Tryz.prog [] 177) k70_40 (initT 0 cs) [] (retQ rs_turrettop_TopDialWire r)) : SC Tryz.prog 4 cs r :=
  sc_of [] follows Tryz.func4 rfl Tryz.ntmps4 (by decide) (by kernel_rfl) (by kernel_rfl) hl h
def k71_0 : SCode := .reg [⟨some 4, none, .alloc 34 [(.int .i64 0), (.int .i64 0)], [], false⟩] [0, 1, 4]
def k71_1 : SCode := .reg [⟨some 5, none, .mov (.tmp 0), [], false⟩, ⟨some 6, none, .mov (.tmp 1), [], false⟩, ⟨some 7, none, .build [(.int .i64 0), (.int .i64 0)] [(0, 1, (.tmp 5)), (1, 1, (.tmp 6))], [], false⟩, ⟨none, none, .store 2 (.tmp 4) (.tmp 7), [], false⟩] [4]
def k71_2 : SCode := .seq k71_1 .ret
def k71_3 : SCode := .seq k71_0 k71_2
@[simp] def rs_turrettop_pubSpan : List SRes := [.cell 4 true 2]
theorem law_turrettop_pubSpan (cs : List CV) (r : CV) (hl : cs.length ≤ 8) (h : STri (cfF Tryz.prog [] 8) k71_3 (initT 0 cs) [] (retQ rs_turrettop_pubSpan r)) : SC Tryz.prog 12 cs r :=
  sc_of [] follows Tryz.func12 rfl Tryz.ntmps12 (by decide) (by kernel_rfl) (by kernel_rfl) hl h
def k72_0 : SCode := .reg [⟨some 0, none, .mov (.const (.bool false)), [], false⟩] []
def k72_1 : SCode := .reg [⟨some 6, none, .call 34 [], [], false⟩, ⟨some 7, none, .call 12 [(.const (.int .i64 (-5))), (.const (.int .i64 5))], [], false⟩, ⟨some 8, none, .call 18 [(.tmp 6), (.const (.int .i64 0)), (.const (.int .i64 2400)), (.tmp 7)], [], false⟩, ⟨some 5, none, .mov (.tmp 8), [], false⟩, ⟨some 9, none, .ext (.tmp 5) 0, [], false⟩, ⟨some 10, none, .ext (.tmp 5) 1, [], false⟩, ⟨some 1, none, .alloc 34 [(.int .i64 0), (.int .i64 0)], [], false⟩, ⟨none, none, .store 2 (.tmp 1) (.tmp 9), [], false⟩, ⟨some 2, none, .mov (.tmp 10), [], false⟩] [1, 2]
def k72_2 : SCode := .reg [⟨some 12, none, .call 34 [], [], false⟩, ⟨some 13, none, .call 12 [(.const (.int .i64 (-5))), (.const (.int .i64 5))], [], false⟩, ⟨some 14, none, .call 19 [(.tmp 12), (.const (.int .i64 0)), (.const (.int .i64 600)), (.tmp 13)], [], false⟩, ⟨some 11, none, .mov (.tmp 14), [], false⟩, ⟨some 15, none, .ext (.tmp 11) 0, [], false⟩, ⟨some 16, none, .ext (.tmp 11) 1, [], false⟩, ⟨some 3, none, .mov (.tmp 15), [], false⟩, ⟨some 4, none, .mov (.tmp 16), [], false⟩] [1, 2, 3, 4]
def k72_3 : SCode := .reg [⟨some 17, none, .mov (.tmp 2), [], false⟩, ⟨some 18, none, .bin .eql (.tmp 17) (.const (.int .i64 0)), [], false⟩, ⟨some 19, none, .mov (.tmp 18), [], false⟩, ⟨some 20, (some (19, true)), .mov (.tmp 4), [], false⟩, ⟨some 21, (some (19, true)), .bin .eql (.tmp 20) (.const (.int .i64 0)), [], false⟩, ⟨some 22, none, .pick (.tmp 19) (.tmp 21) (.const (.bool false)), [], false⟩, ⟨some 23, none, .mov (.tmp 22), [], false⟩, ⟨some 24, (some (23, true)), .load true 2 (.tmp 1), [], false⟩, ⟨some 25, (some (23, true)), .call 12 [(.const (.int .i64 (-48))), (.const (.int .i64 (-18)))], [], false⟩, ⟨some 26, (some (23, true)), .eqC false [true, true] (.tmp 24) (.tmp 25), [], false⟩, ⟨some 27, none, .pick (.tmp 23) (.tmp 26) (.const (.bool false)), [], false⟩, ⟨some 28, none, .mov (.tmp 27), [], false⟩, ⟨some 29, (some (28, true)), .mov (.tmp 3), [], false⟩, ⟨some 30, (some (28, true)), .len (.tmp 29), [], false⟩, ⟨some 31, (some (28, true)), .bin .eql (.tmp 30) (.const (.int .i64 2)), [], false⟩, ⟨some 32, none, .pick (.tmp 28) (.tmp 31) (.const (.bool false)), [], false⟩, ⟨some 33, none, .mov (.tmp 32), [], false⟩, ⟨some 34, (some (33, true)), .mov (.tmp 3), [], false⟩, ⟨some 35, (some (33, true)), .idxS 2 (.tmp 34) (.const (.int .i64 0)), [], false⟩, ⟨some 36, (some (33, true)), .load true 2 (.tmp 35), [], false⟩, ⟨some 37, (some (33, true)), .call 12 [(.const (.int .i64 570)), (.const (.int .i64 570))], [], false⟩, ⟨some 38, (some (33, true)), .eqC false [true, true] (.tmp 36) (.tmp 37), [], false⟩, ⟨some 39, none, .pick (.tmp 33) (.tmp 38) (.const (.bool false)), [], false⟩, ⟨some 40, none, .mov (.tmp 39), [], false⟩, ⟨some 41, (some (40, true)), .mov (.tmp 3), [], false⟩, ⟨some 42, (some (40, true)), .idxS 2 (.tmp 41) (.const (.int .i64 1)), [], false⟩, ⟨some 43, (some (40, true)), .load true 2 (.tmp 42), [], false⟩, ⟨some 44, (some (40, true)), .call 12 [(.const (.int .i64 600)), (.const (.int .i64 600))], [], false⟩, ⟨some 45, (some (40, true)), .eqC false [true, true] (.tmp 43) (.tmp 44), [], false⟩, ⟨some 46, none, .pick (.tmp 40) (.tmp 45) (.const (.bool false)), [], false⟩, ⟨some 0, none, .mov (.tmp 46), [], false⟩] [0]
def k72_4 : SCode := .seq k72_3 .ret
def k72_5 : SCode := .seq k72_2 k72_4
def k72_6 : SCode := .seq k72_1 k72_5
def k72_7 : SCode := .seq k72_0 k72_6
@[simp] def rs_turrettop_pubDial : List SRes := [.tmp 0]
theorem law_turrettop_pubDial (cs : List CV) (r : CV) (hl : cs.length ≤ 47) (h : STri (cfF Tryz.prog [] 47) k72_7 (initT 0 cs) [] (retQ rs_turrettop_pubDial r)) : SC Tryz.prog 16 cs r :=
  sc_of [] follows Tryz.func16 rfl Tryz.ntmps16 (by decide) (by kernel_rfl) (by kernel_rfl) hl h
def k73_0 : SCode := .reg [⟨some 6, none, .alloc 59 [(.int .i64 0), (.int .i64 0), (.slice none 0 0), (.int .i64 0), (.int .i64 0)], [], false⟩] [0, 1, 2, 6]
def k73_1 : SCode := .reg [⟨some 7, none, .mov (.tmp 0), [], false⟩, ⟨some 8, none, .build [(.int .i64 0), (.int .i64 0)] [(0, 1, (.const (.int .i64 1))), (1, 1, (.const (.int .i64 1)))], [], false⟩, ⟨some 9, none, .build [(.int .i64 0), (.int .i64 0), (.int .i64 0)] [(0, 1, (.tmp 7)), (1, 2, (.tmp 8))], [], false⟩, ⟨some 10, none, .buildSl 102 3 [(.int .i64 0), (.int .i64 0), (.int .i64 0)] 1 [(0, (.tmp 9))], [], false⟩, ⟨some 11, none, .mov (.tmp 1), [], false⟩, ⟨some 12, none, .mov (.tmp 2), [], false⟩, ⟨some 13, none, .build [(.int .i64 0), (.int .i64 0), (.slice none 0 0), (.int .i64 0), (.int .i64 0)] [(2, 1, (.tmp 10)), (3, 1, (.tmp 11)), (4, 1, (.tmp 12))], [], false⟩, ⟨none, none, .store 5 (.tmp 6) (.tmp 13), [], false⟩] [6]
def k73_2 : SCode := .seq k73_1 .ret
def k73_3 : SCode := .seq k73_0 k73_2
@[simp] def rs_turrettop_pubFace : List SRes := [.cell 6 true 5]
theorem law_turrettop_pubFace (cs : List CV) (r : CV) (hl : cs.length ≤ 14) (h : STri (cfF Tryz.prog [] 14) k73_3 (initT 0 cs) [] (retQ rs_turrettop_pubFace r)) : SC Tryz.prog 17 cs r :=
  sc_of [] follows Tryz.func17 rfl Tryz.ntmps17 (by decide) (by kernel_rfl) (by kernel_rfl) hl h
def k74_0 : SCode := .reg [⟨some 4, none, .box 75 (.tmp 0), [], false⟩, ⟨some 8, none, .mov (.const (.bool false)), [], false⟩] [1, 2, 3, 4]
def k74_1 : SCode := .reg [⟨some 12, none, .load true 8 (.tmp 4), [], false⟩, ⟨some 13, none, .buildSl 75 8 [(.int .i64 0), (.int .i64 0), (.int .i64 0), (.int .i64 0), (.int .i64 0), (.int .i64 0), (.int .i64 0), (.slice none 0 0)] 1 [(0, (.tmp 12))], [], true⟩, ⟨some 14, none, .mov (.tmp 1), [], false⟩, ⟨some 15, none, .mov (.tmp 3), [], false⟩, ⟨some 16, none, .bin .sub (.tmp 14) (.tmp 15), [], false⟩, ⟨some 17, none, .mov (.tmp 2), [], false⟩, ⟨some 18, none, .build [(.int .i64 0), (.int .i64 0), (.int .i64 0)] [(1, 1, (.tmp 16)), (2, 1, (.tmp 17))], [], false⟩, ⟨some 19, none, .mov (.tmp 3), [], false⟩, ⟨some 20, none, .mov (.tmp 3), [], false⟩, ⟨some 21, none, .call 12 [(.tmp 19), (.tmp 20)], [1], false⟩, ⟨some 22, none, .call 40 [(.tmp 13), (.tmp 18), (.tmp 21)], [], false⟩, ⟨some 11, none, .mov (.tmp 22), [], false⟩, ⟨some 23, none, .ext (.tmp 11) 0, [], false⟩, ⟨some 24, none, .ext (.tmp 11) 1, [], false⟩, ⟨some 9, none, .mov (.tmp 23), [], false⟩, ⟨some 10, none, .mov (.tmp 24), [], false⟩] [3, 9, 10]
def k74_2 : SCode := .reg [⟨some 25, none, .mov (.tmp 10), [], false⟩, ⟨some 26, none, .bin .eql (.tmp 25) (.const (.int .i64 0)), [], false⟩, ⟨some 27, none, .mov (.tmp 26), [], false⟩, ⟨some 28, (some (27, true)), .mov (.tmp 9), [], false⟩, ⟨some 29, (some (27, true)), .len (.tmp 28), [], false⟩, ⟨some 30, (some (27, true)), .bin .eql (.tmp 29) (.const (.int .i64 1)), [], false⟩, ⟨some 31, none, .pick (.tmp 27) (.tmp 30) (.const (.bool false)), [], false⟩, ⟨some 32, none, .mov (.tmp 31), [], false⟩, ⟨some 33, (some (32, true)), .mov (.tmp 9), [], false⟩, ⟨some 34, (some (32, true)), .idxS 2 (.tmp 33) (.const (.int .i64 0)), [], false⟩, ⟨some 35, (some (32, true)), .load true 2 (.tmp 34), [], false⟩, ⟨some 36, (some (32, true)), .mov (.tmp 3), [], false⟩, ⟨some 37, (some (32, true)), .mov (.tmp 3), [], false⟩, ⟨some 38, (some (32, true)), .call 12 [(.tmp 36), (.tmp 37)], [], false⟩, ⟨some 39, (some (32, true)), .eqC false [true, true] (.tmp 35) (.tmp 38), [], false⟩, ⟨some 40, none, .pick (.tmp 32) (.tmp 39) (.const (.bool false)), [], false⟩, ⟨some 8, none, .mov (.tmp 40), [], false⟩] [8]
def k74_3 : SCode := .seq k74_2 .ret
def k74_4 : SCode := .seq k74_1 k74_3
def k74_5 : SCode := .seq k74_0 k74_4
@[simp] def rs_turrettop_pubNoted : List SRes := [.tmp 8]
theorem law_turrettop_pubNoted (cs : List CV) (r : CV) (hl : cs.length ≤ 41) (h : STri (cfF Tryz.prog [] 41) k74_5 (initT 0 cs) [] (retQ rs_turrettop_pubNoted r)) : SC Tryz.prog 21 cs r :=
  sc_of [] follows Tryz.func21 rfl Tryz.ntmps21 (by decide) (by kernel_rfl) (by kernel_rfl) hl h
def k75_0 : SCode := .reg [⟨some 4, none, .mov (.const (.int .i64 0)), [], false⟩] [0, 1]
def k75_1 : SCode := .reg [⟨some 5, none, .mov (.tmp 0), [], false⟩, ⟨some 6, none, .mov (.tmp 1), [], false⟩, ⟨some 7, none, .bin .rem (.tmp 5) (.tmp 6), [], false⟩, ⟨some 8, none, .mov (.tmp 1), [], false⟩, ⟨some 9, none, .bin .add (.tmp 7) (.tmp 8), [], false⟩, ⟨some 10, none, .mov (.tmp 1), [], false⟩, ⟨some 11, none, .bin .rem (.tmp 9) (.tmp 10), [], false⟩, ⟨some 4, none, .mov (.tmp 11), [], false⟩] [4]
def k75_2 : SCode := .seq k75_1 .ret
def k75_3 : SCode := .seq k75_0 k75_2
@[simp] def rs_turrettop_pubRest : List SRes := [.tmp 4]
theorem law_turrettop_pubRest (cs : List CV) (r : CV) (hl : cs.length ≤ 12) (h : STri (cfF Tryz.prog [] 12) k75_3 (initT 0 cs) [] (retQ rs_turrettop_pubRest r)) : SC Tryz.prog 22 cs r :=
  sc_of [] follows Tryz.func22 rfl Tryz.ntmps22 (by decide) (by kernel_rfl) (by kernel_rfl) hl h
def k76_0 : SCode := .reg [⟨some 0, none, .mov (.const (.bool false)), [], false⟩] []
def k76_1 : SCode := .reg [⟨some 6, none, .call 12 [(.const (.int .i64 0)), (.const (.int .i64 1))], [], false⟩, ⟨some 7, none, .build [(.int .i64 0), (.int .i64 0), (.int .i64 0), (.int .i64 0), (.int .i64 0), (.int .i64 0), (.int .i64 0), (.slice none 0 0)] [(0, 1, (.const (.int .i64 2))), (1, 2, (.tmp 6)), (3, 1, (.const (.int .i64 3600))), (6, 1, (.const (.int .i64 86400)))], [], false⟩, ⟨some 8, none, .call 12 [(.const (.int .i64 2)), (.const (.int .i64 5))], [], false⟩, ⟨some 9, none, .build [(.int .i64 0), (.int .i64 0), (.int .i64 0), (.int .i64 0), (.int .i64 0), (.int .i64 0), (.int .i64 0), (.slice none 0 0)] [(0, 1, (.const (.int .i64 4))), (1, 2, (.tmp 8))], [], false⟩, ⟨some 10, none, .call 12 [(.const (.int .i64 (-1))), (.const (.int .i64 1))], [], false⟩, ⟨some 11, none, .call 12 [(.const (.int .i64 0)), (.const (.int .i64 2000))], [], false⟩, ⟨some 12, none, .build [(.int .i64 0), (.int .i64 0), (.int .i64 0), (.int .i64 0), (.int .i64 0), (.int .i64 0), (.int .i64 0), (.slice none 0 0)] [(0, 1, (.const (.int .i64 1))), (1, 2, (.tmp 10)), (4, 2, (.tmp 11))], [], false⟩, ⟨some 13, none, .buildSl 75 8 [(.int .i64 0), (.int .i64 0), (.int .i64 0), (.int .i64 0), (.int .i64 0), (.int .i64 0), (.int .i64 0), (.slice none 0 0)] 3 [(0, (.tmp 7)), (1, (.tmp 9)), (2, (.tmp 12))], [], false⟩, ⟨some 1, none, .mov (.tmp 13), [], false⟩] [1]
def k76_2 : SCode := .reg [⟨some 15, none, .mov (.tmp 1), [], false⟩, ⟨some 16, none, .build [(.int .i64 0), (.int .i64 0), (.int .i64 0)] [(1, 1, (.const (.int .i64 3500)))], [], false⟩, ⟨some 17, none, .build [(.int .i64 0), (.int .i64 0), (.int .i64 0)] [(0, 1, (.const (.int .i64 1))), (1, 1, (.const (.int .i64 7000))), (2, 1, (.const (.int .i64 7098)))], [], false⟩, ⟨some 18, none, .build [(.int .i64 0), (.int .i64 0), (.int .i64 0)] [(0, 1, (.const (.int .i64 2))), (1, 1, (.const (.int .i64 86300))), (2, 1, (.const (.int .i64 2)))], [], false⟩, ⟨some 19, none, .buildSl 81 3 [(.int .i64 0), (.int .i64 0), (.int .i64 0)] 3 [(0, (.tmp 16)), (1, (.tmp 17)), (2, (.tmp 18))], [], false⟩, ⟨some 20, none, .call 12 [(.const (.int .i64 0)), (.const (.int .i64 200))], [], false⟩, ⟨some 21, none, .call 43 [(.tmp 15), (.tmp 19), (.tmp 20)], [], false⟩, ⟨some 14, none, .mov (.tmp 21), [], false⟩, ⟨some 22, none, .ext (.tmp 14) 0, [], false⟩, ⟨some 23, none, .ext (.tmp 14) 1, [], false⟩, ⟨some 2, none, .mov (.tmp 22), [], false⟩, ⟨some 3, none, .mov (.tmp 23), [], false⟩] [1, 2, 3]
def k76_3 : SCode := .reg [⟨some 25, none, .mov (.tmp 1), [], false⟩, ⟨some 26, none, .build [(.int .i64 0), (.int .i64 0), (.int .i64 0)] [(1, 1, (.const (.int .i64 3500)))], [], false⟩, ⟨some 27, none, .build [(.int .i64 0), (.int .i64 0), (.int .i64 0)] [(0, 1, (.const (.int .i64 1))), (1, 1, (.const (.int .i64 7000))), (2, 1, (.const (.int .i64 7098)))], [], false⟩, ⟨some 28, none, .build [(.int .i64 0), (.int .i64 0), (.int .i64 0)] [(0, 1, (.const (.int .i64 2))), (1, 1, (.const (.int .i64 86300))), (2, 1, (.const (.int .i64 40)))], [], false⟩, ⟨some 29, none, .buildSl 81 3 [(.int .i64 0), (.int .i64 0), (.int .i64 0)] 3 [(0, (.tmp 26)), (1, (.tmp 27)), (2, (.tmp 28))], [], false⟩, ⟨some 30, none, .call 12 [(.const (.int .i64 0)), (.const (.int .i64 200))], [], false⟩, ⟨some 31, none, .call 23 [(.tmp 25), (.tmp 29), (.tmp 30)], [], false⟩, ⟨some 24, none, .mov (.tmp 31), [], false⟩, ⟨some 32, none, .ext (.tmp 24) 0, [], false⟩, ⟨some 33, none, .ext (.tmp 24) 1, [], false⟩, ⟨some 4, none, .mov (.tmp 32), [], false⟩, ⟨some 5, none, .mov (.tmp 33), [], false⟩] [2, 3, 4, 5]
def k76_4 : SCode := .reg [⟨some 34, none, .mov (.tmp 3), [], false⟩, ⟨some 35, none, .bin .eql (.tmp 34) (.const (.int .i64 0)), [], false⟩, ⟨some 36, none, .mov (.tmp 35), [], false⟩, ⟨some 37, (some (36, true)), .mov (.tmp 5), [], false⟩, ⟨some 38, (some (36, true)), .bin .eql (.tmp 37) (.const (.int .i64 0)), [], false⟩, ⟨some 39, none, .pick (.tmp 36) (.tmp 38) (.const (.bool false)), [], false⟩, ⟨some 40, none, .mov (.tmp 39), [], false⟩, ⟨some 41, (some (40, true)), .mov (.tmp 2), [], false⟩, ⟨some 42, (some (40, true)), .len (.tmp 41), [], false⟩, ⟨some 43, (some (40, true)), .bin .eql (.tmp 42) (.const (.int .i64 1)), [], false⟩, ⟨some 44, none, .pick (.tmp 40) (.tmp 43) (.const (.bool false)), [], false⟩, ⟨some 45, none, .mov (.tmp 44), [], false⟩, ⟨some 46, (some (45, true)), .mov (.tmp 2), [], false⟩, ⟨some 47, (some (45, true)), .idxS 2 (.tmp 46) (.const (.int .i64 0)), [], false⟩, ⟨some 48, (some (45, true)), .load true 2 (.tmp 47), [], false⟩, ⟨some 49, (some (45, true)), .call 12 [(.const (.int .i64 100)), (.const (.int .i64 101))], [], false⟩, ⟨some 50, (some (45, true)), .eqC false [true, true] (.tmp 48) (.tmp 49), [], false⟩, ⟨some 51, none, .pick (.tmp 45) (.tmp 50) (.const (.bool false)), [], false⟩, ⟨some 52, none, .mov (.tmp 51), [], false⟩, ⟨some 53, (some (52, true)), .mov (.tmp 4), [], false⟩, ⟨some 54, (some (52, true)), .bin .eql (.tmp 53) (.const (.int .i64 2)), [], false⟩, ⟨some 55, none, .pick (.tmp 52) (.tmp 54) (.const (.bool false)), [], false⟩, ⟨some 0, none, .mov (.tmp 55), [], false⟩] [0]
def k76_5 : SCode := .seq k76_4 .ret
def k76_6 : SCode := .seq k76_3 k76_5
def k76_7 : SCode := .seq k76_2 k76_6
def k76_8 : SCode := .seq k76_1 k76_7
def k76_9 : SCode := .seq k76_0 k76_8
@[simp] def rs_turrettop_pubWire : List SRes := [.tmp 0]
theorem law_turrettop_pubWire (cs : List CV) (r : CV) (hl : cs.length ≤ 56) (h : STri (cfF Tryz.prog [] 56) k76_9 (initT 0 cs) [] (retQ rs_turrettop_pubWire r)) : SC Tryz.prog 24 cs r :=
  sc_of [] follows Tryz.func24 rfl Tryz.ntmps24 (by decide) (by kernel_rfl) (by kernel_rfl) hl h
def k77_0 : SCode := .reg [⟨some 0, none, .alloc 63 [(.int .i64 0), (.int .i64 0), (.int .i64 0), (.slice none 0 0)], [], false⟩] [0]
def k77_1 : SCode := .reg [⟨some 1, none, .call 12 [(.const (.int .i64 (-2))), (.const (.int .i64 3))], [], false⟩, ⟨some 2, none, .call 17 [(.const (.int .i64 5)), (.const (.int .i64 30)), (.const (.int .i64 10))], [], false⟩, ⟨some 3, none, .buildSl 59 5 [(.int .i64 0), (.int .i64 0), (.slice none 0 0), (.int .i64 0), (.int .i64 0)] 1 [(0, (.tmp 2))], [], false⟩, ⟨some 4, none, .build [(.int .i64 0), (.int .i64 0), (.int .i64 0), (.slice none 0 0)] [(0, 1, (.const (.int .i64 30))), (1, 2, (.tmp 1)), (3, 1, (.tmp 3))], [], false⟩, ⟨none, none, .store 4 (.tmp 0) (.tmp 4), [], false⟩] [0]
def k77_2 : SCode := .seq k77_1 .ret
def k77_3 : SCode := .seq k77_0 k77_2
@[simp] def rs_turrettop_pubThirty : List SRes := [.cell 0 true 4]
theorem law_turrettop_pubThirty (cs : List CV) (r : CV) (hl : cs.length ≤ 5) (h : STri (cfF Tryz.prog [] 5) k77_3 (initT 0 cs) [] (retQ rs_turrettop_pubThirty r)) : SC Tryz.prog 34 cs r :=
  sc_of [] follows Tryz.func34 rfl Tryz.ntmps34 (by decide) (by kernel_rfl) (by kernel_rfl) hl h
end Go.Proofs.YtlodpljdhdhfmaaGreat
/- Top's helpers: spans, offices, notes, and what chapter 8's examples say. -/
namespace Go.Proofs.YtlodpljdhdhfmaaGreat
open Go.RowKit
theorem sSpanT (lo hi : Int) : SC Tryz.prog 12 [I lo, I hi] (.agg [I lo, I hi]) := by
  refine law_turrettop_pubSpan _ _ (by simp) ?_
  (repeat' (first | ((first | with_reducible refine st_skip ?_ | with_reducible refine st_exit ?_); (try simp only [seqQ, blockQ, loopQ, forQ, whileQ, reduceIte, Nat.reduceEqDiff])) | (with_reducible refine st_ret ?_; ((try simp only [seqQ, blockQ, loopQ, forQ, whileQ]); first | (with_reducible refine retM_ret ?_) | refine retQ_ret ?_; simp)) | refine st_seq ?_ | refine st_block ?_ | ((with_reducible show (STri _ _ _ _ _) ∧ (STri _ _ _ _ _)); refine And.intro ?_ ?_) | ((first | refine st_reg ?_ | refine buildP_own ?_ | refine appP_own ?_) <;> (simp -dsimp; (repeat (simp -dsimp (disch := (first | omega | assumption | (refine Bool.eq_false_iff.1 ?_; assumption))) only [wrap_in, if_pos, if_neg]; (try simp -dsimp))))) | ((first | refine guardP_of (fun hc => ?_) (fun hc => ?_) | refine st_cond rfl (fun hc => ?_) (fun hc => ?_)) <;> (try simp only [lqA, lqB, lqC, lqD, lqE, lqF, lqG, lqH, lqI, lqJ, lqK, lqL, lqM, lqN, lqO] at hc) <;> (try (exfalso; first | omega | exact bool_tf hc (by assumption) | exact bool_ft hc (by assumption) | exact absurd (by assumption) hc)) <;> (first | with_reducible show STri _ _ _ _ _ _ | (simp -dsimp [hc]; (repeat (simp -dsimp (disch := (first | omega | assumption | (refine Bool.eq_false_iff.1 ?_; assumption))) only [wrap_in, if_pos, if_neg]; (try simp -dsimp [hc]))))))))
  all_goals exact .refl _
theorem sRestT (n b : Int) (h3 : 0 < b) (h4 : b ≤ 1000000000000) : SC Tryz.prog 22 [I n, I b] (I (n % b)) := by
  refine law_turrettop_pubRest _ _ (by simp) ?_
  have hne : ¬ b = 0 := by omega
  have hb : IntKind.i64.wrap (n.tmod b + b) = n.tmod b + b := by
    have := tmod_lt n b h3
    exact wrap_in _ (by omega) (by omega)
  have he := mod_eq n b h3
  (repeat' (first | ((first | with_reducible refine st_skip ?_ | with_reducible refine st_exit ?_); (try simp only [seqQ, blockQ, loopQ, forQ, whileQ, reduceIte, Nat.reduceEqDiff])) | (with_reducible refine st_ret ?_; ((try simp only [seqQ, blockQ, loopQ, forQ, whileQ]); first | (with_reducible refine retM_ret ?_) | refine retQ_ret ?_; simp [hne, hb, he])) | refine st_seq ?_ | refine st_block ?_ | ((with_reducible show (STri _ _ _ _ _) ∧ (STri _ _ _ _ _)); refine And.intro ?_ ?_) | ((first | refine st_reg ?_ | refine buildP_own ?_ | refine appP_own ?_) <;> (simp -dsimp [hne, hb, he]; (repeat (simp -dsimp (disch := (first | omega | assumption | (refine Bool.eq_false_iff.1 ?_; assumption))) only [wrap_in, if_pos, if_neg]; (try simp -dsimp [hne, hb, he]))))) | ((first | refine guardP_of (fun hc => ?_) (fun hc => ?_) | refine st_cond rfl (fun hc => ?_) (fun hc => ?_)) <;> (try simp only [lqA, lqB, lqC, lqD, lqE, lqF, lqG, lqH, lqI, lqJ, lqK, lqL, lqM, lqN, lqO] at hc) <;> (try (exfalso; first | omega | exact bool_tf hc (by assumption) | exact bool_ft hc (by assumption) | exact absurd (by assumption) hc)) <;> (first | with_reducible show STri _ _ _ _ _ _ | (simp -dsimp [hne, hb, he, hc]; (repeat (simp -dsimp (disch := (first | omega | assumption | (refine Bool.eq_false_iff.1 ?_; assumption))) only [wrap_in, if_pos, if_neg]; (try simp -dsimp [hne, hb, he, hc]))))))))
  exact .refl _
theorem sc_arg0 {P : Program} {f : FuncId} {c c' : CV} {cs : List CV} {r : CV} (h : SC P f (c :: cs) r) (hc : ∀ (w : World) (N : Nat → Prop) (v : Value), RepC w N c' v → RepC w N c v) : SC P f (c' :: cs) r := fun w NA vs hNA hs hv =>
  h w NA vs hNA hs fun i y v hy hv' => by
    cases i with
    | zero => cases hy; exact hc _ _ _ (hv 0 c' v rfl hv')
    | succ i => exact hv (i + 1) y v hy hv'
theorem three_len : WLen threeW := ⟨fun s hs => by
  unfold threeW at hs
  rcases List.mem_cons.1 hs with rfl | hs
  · simp
  rcases List.mem_cons.1 hs with rfl | hs
  · simp
  rcases List.mem_cons.1 hs with rfl | hs
  · simp
  · cases hs⟩
theorem k_fits : SC Tryz.prog 43 [.sl 8 (threeW.map rowNil), slN (notesW 2), .agg [I 0, I 200]] (.tup [slE [(100, 101)], I 0]) := by
  have h := sFits threeW three_len (notesW 2) (by decide) 0 200
  rw [if_pos ex_two, if_pos ex_two, ex_bk ex_two, ex_s2, if_neg (by simp)] at h
  exact sc_arg0 h fun w N v hv => rep_nils (by simp [threeW]) hv
theorem k_convict : SC Tryz.prog 23 [.sl 8 (threeW.map rowNil), slN (notesW 40), .agg [I 0, I 200]] (.tup [I 2, I 0]) := by
  have h := sConvict threeW three_len (notesW 40) (by decide) 0 200
  rw [ex_far, if_pos rfl, if_pos rfl, ex_bk ex_far, ex_ll] at h
  exact sc_arg0 h fun w N v hv => rep_nils (by simp [threeW]) hv
set_option maxRecDepth 100000 in
theorem sPubWire : SC Tryz.prog 24 [] (B true) := by
  refine law_turrettop_pubWire _ _ (by simp) ?_
  have a2 := k_fits
  have a7 := k_convict
  simp only [threeW, notesW, rowNil, slN, rowN, List.map_cons, List.map_nil] at a2 a7
  (repeat' (first | ((first | with_reducible refine st_skip ?_ | with_reducible refine st_exit ?_); (try simp only [seqQ, blockQ, loopQ, forQ, whileQ, reduceIte, Nat.reduceEqDiff])) | (with_reducible refine st_ret ?_; ((try simp only [seqQ, blockQ, loopQ, forQ, whileQ]); first | (with_reducible refine retM_ret ?_) | refine retQ_ret ?_; simp)) | refine st_seq ?_ | refine st_block ?_ | ((with_reducible show (STri _ _ _ _ _) ∧ (STri _ _ _ _ _)); refine And.intro ?_ ?_) | ((first | refine st_reg ?_ | refine buildP_frz ?_ | refine appP_own ?_ | refine callP_b (sSpanT 0 1) rfl ?_ | refine callP_b (sSpanT 2 5) rfl ?_ | refine callP_b (sSpanT (-1) 1) rfl ?_ | refine callP_b (sSpanT 0 2000) rfl ?_ | refine callP_b (sSpanT 0 200) rfl ?_ | refine callP_b (sSpanT 100 101) rfl ?_ | refine callP_b (a2) rfl ?_ | refine callP_b (a7) rfl ?_) <;> (simp -dsimp; (repeat (simp -dsimp (disch := (first | omega | assumption | (refine Bool.eq_false_iff.1 ?_; assumption))) only [wrap_in, if_pos, if_neg]; (try simp -dsimp))))) | ((first | refine guardP_of (fun hc => ?_) (fun hc => ?_) | refine st_cond rfl (fun hc => ?_) (fun hc => ?_)) <;> (try simp only [lqA, lqB, lqC, lqD, lqE, lqF, lqG, lqH, lqI, lqJ, lqK, lqL, lqM, lqN, lqO] at hc) <;> (try (exfalso; first | omega | exact bool_tf hc (by assumption) | exact bool_ft hc (by assumption) | exact absurd (by assumption) hc)) <;> (first | with_reducible show STri _ _ _ _ _ _ | (simp -dsimp [hc]; (repeat (simp -dsimp (disch := (first | omega | assumption | (refine Bool.eq_false_iff.1 ?_; assumption))) only [wrap_in, if_pos, if_neg]; (try simp -dsimp [hc]))))))))
  all_goals exact .refl _
end Go.Proofs.YtlodpljdhdhfmaaGreat
/- A note of one source: whether it is right with a correction. -/
namespace Go.Proofs.YtlodpljdhdhfmaaGreat
open Go.RowKit
def oneB (s : Wsrc) (n : Wnt) (lo hi : Int) : Wbk := ⟨[s], [errOf s], [n], lo, hi⟩
theorem one_spans (b : Wbk) (y : Int) (h1 : b.nlo = y) (h2 : b.nhi = y) (p : Nat → Bool) : spansL b p = if p (wrongN b y) = true then [(y, y)] else [] := by
  have hn : bookN b = 1 := by unfold bookN; omega
  have ha : allL b = [(y, wrongN b y)] := by
    unfold allL
    rw [hn]
    simp [List.range_succ, h1]
  unfold spansL
  rw [ha]
  simp only [List.foldl_cons, List.foldl_nil]
  unfold spanStep
  by_cases h : p (wrongN b y) = true
  · simp [h]
  · simp [h]
theorem one_wrong (s : Wsrc) (n : Wnt) (lo hi y : Int) : wrongN (oneB s n lo hi) y = if rightN (oneB s n lo hi) n y = true then 0 else 2 ^ n.src.toNat := by
  have e : wrongN (oneB s n lo hi) y = [n].foldl (fun a n => if rightN (oneB s n lo hi) n y = true then a else a ||| 2 ^ n.src.toNat) 0 := rfl
  rw [e]
  simp only [List.foldl_cons, List.foldl_nil, Nat.zero_or]
theorem one_span (s : Wsrc) (hl : s.table.length ≤ 1000000) (n : Wnt) (hn : n.src = 0) (y : Int) (h : newErr [s] [n] y y = 0) :
    SC Tryz.prog 40 [slSr [s], cN n, .agg [I y, I y]] (.tup [slE (if rightN (oneB s n y y) n y = true then [(y, y)] else []), I 0]) := by
  have q := sSpans [s] ⟨fun x hx => by rw [List.mem_singleton.1 hx]; exact hl⟩ n y y
  rw [h, if_pos rfl] at q
  have hb : newBk [s] [n] y y = oneB s n y y := (new_ok h).1
  rw [hb, one_spans _ y rfl rfl, one_wrong] at q
  rw [hn] at q
  by_cases hr : rightN (oneB s n y y) n y = true
  · rw [if_pos hr] at q ⊢
    exact q
  · rw [if_neg hr] at q ⊢
    exact q
theorem one_err {s : Wsrc} {ts sa y : Int} (hv : validV s = true) (t0 : 0 ≤ ts) (t1 : ts ≤ 3155760000) (hs : saidB s sa = true) (y0 : -7200 ≤ y) (y1 : y ≤ 7200) : newErr [s] [⟨0, ts, sa⟩] y y = 0 := by
  have n1 : noteErr [s] ⟨0, ts, sa⟩ = 0 := by
    unfold noteErr within1
    simp [hs]; omega
  have hn : notesErr [s] [⟨0, ts, sa⟩] = 0 := by
    unfold notesErr
    simp [n1]
  have hsp : spanW y y 7200 = true := by unfold spanW; simp; omega
  unfold newErr
  rw [if_neg (by simp [sizeW, within1]), if_neg (by simp [hv]), if_neg (by simp), if_neg (by simp [hn]), if_pos hsp]
theorem clk_valid {el eh dl dh : Int} (e0 : -3600 ≤ el) (e1 : el ≤ eh) (e2 : eh ≤ 3600) (d0 : -100000 ≤ dl) (d1 : dl ≤ dh) (d2 : dh ≤ 100000) : validV (clkW el eh dl dh) = true := by
  unfold validV baseV useV clkW clockV kindOK spanW within1
  simp; omega
theorem clk_said {el eh dl dh n : Int} (h0 : 0 ≤ n) (h1 : n < 43200) : saidB (clkW el eh dl dh) n = true := by
  unfold saidB clkW within1
  simp; omega
theorem one_clk {el eh ts sa y lo hi : Int} : rightN (oneB (clkW el eh 0 0) ⟨0, ts, sa⟩ lo hi) ⟨0, ts, sa⟩ y = (within1 0 3155760000 (ts + y) && (decide (0 ≤ ts + y) && decide ((sa - (ts + y) - el) % 43200 ≤ eh - el))) := by
  unfold rightN oneB rightB clkW errOf clockR clLo clHi upI
  simp
theorem sNoted (s : Wsrc) (ht : s.table = []) (hv : validV s = true) (t said y : Int) (t0 : 0 ≤ t - y) (t1 : t - y ≤ 3155760000) (hs : saidB s said = true) (y0 : -7200 ≤ y) (y1 : y ≤ 7200) :
    SC Tryz.prog 21 [.agg (rowNil s), I t, I said, I y] (B (rightN (oneB s ⟨0, t - y, said⟩ y y) ⟨0, t - y, said⟩ y)) := by
  refine law_turrettop_pubNoted _ _ (by simp [rowNil]) ?_
  have q := one_span s (by rw [ht]; simp) ⟨0, t - y, said⟩ rfl y (one_err hv t0 t1 hs y0 y1)
  have q2 := sc_arg0 (c' := .sl 8 ([s].map rowNil)) q fun w N v hv => rep_nils (by simp [ht]) hv
  generalize rightN (oneB s ⟨0, t - y, said⟩ y y) ⟨0, t - y, said⟩ y = r at *
  simp only [List.map_cons, List.map_nil, cN, rowN, rowNil] at q2
  unfold rowNil
  cases r with
  | true =>
    simp only [if_true] at q2
    (repeat' (first | ((first | with_reducible refine st_skip ?_ | with_reducible refine st_exit ?_); (try simp only [seqQ, blockQ, loopQ, forQ, whileQ, reduceIte, Nat.reduceEqDiff])) | (with_reducible refine st_ret ?_; ((try simp only [seqQ, blockQ, loopQ, forQ, whileQ]); first | (with_reducible refine retM_ret ?_) | refine retQ_ret ?_; simp)) | refine st_seq ?_ | refine st_block ?_ | ((with_reducible show (STri _ _ _ _ _) ∧ (STri _ _ _ _ _)); refine And.intro ?_ ?_) | ((first | refine st_reg ?_ | refine buildP_frz ?_ | refine appP_own ?_ | refine callP_b (sSpanT y y) rfl ?_ | refine callP_b (q2) rfl ?_) <;> (simp -dsimp; (repeat (simp -dsimp (disch := (first | omega | assumption | (refine Bool.eq_false_iff.1 ?_; assumption))) only [wrap_in, if_pos, if_neg]; (try simp -dsimp))))) | ((first | refine guardP_of (fun hc => ?_) (fun hc => ?_) | refine st_cond rfl (fun hc => ?_) (fun hc => ?_)) <;> (try simp only [lqA, lqB, lqC, lqD, lqE, lqF, lqG, lqH, lqI, lqJ, lqK, lqL, lqM, lqN, lqO] at hc) <;> (try (exfalso; first | omega | exact bool_tf hc (by assumption) | exact bool_ft hc (by assumption) | exact absurd (by assumption) hc)) <;> (first | with_reducible show STri _ _ _ _ _ _ | (simp -dsimp [hc]; (repeat (simp -dsimp (disch := (first | omega | assumption | (refine Bool.eq_false_iff.1 ?_; assumption))) only [wrap_in, if_pos, if_neg]; (try simp -dsimp [hc]))))))))
    all_goals exact .refl _
  | false =>
    simp only [if_false, Bool.false_eq_true] at q2
    (repeat' (first | ((first | with_reducible refine st_skip ?_ | with_reducible refine st_exit ?_); (try simp only [seqQ, blockQ, loopQ, forQ, whileQ, reduceIte, Nat.reduceEqDiff])) | (with_reducible refine st_ret ?_; ((try simp only [seqQ, blockQ, loopQ, forQ, whileQ]); first | (with_reducible refine retM_ret ?_) | refine retQ_ret ?_; simp)) | refine st_seq ?_ | refine st_block ?_ | ((with_reducible show (STri _ _ _ _ _) ∧ (STri _ _ _ _ _)); refine And.intro ?_ ?_) | ((first | refine st_reg ?_ | refine buildP_frz ?_ | refine appP_own ?_ | refine callP_b (sSpanT y y) rfl ?_ | refine callP_b (q2) rfl ?_) <;> (simp -dsimp; (repeat (simp -dsimp (disch := (first | omega | assumption | (refine Bool.eq_false_iff.1 ?_; assumption))) only [wrap_in, if_pos, if_neg]; (try simp -dsimp))))) | ((first | refine guardP_of (fun hc => ?_) (fun hc => ?_) | refine st_cond rfl (fun hc => ?_) (fun hc => ?_)) <;> (try simp only [lqA, lqB, lqC, lqD, lqE, lqF, lqG, lqH, lqI, lqJ, lqK, lqL, lqM, lqN, lqO] at hc) <;> (try (exfalso; first | omega | exact bool_tf hc (by assumption) | exact bool_ft hc (by assumption) | exact absurd (by assumption) hc)) <;> (first | with_reducible show STri _ _ _ _ _ _ | (simp -dsimp [hc]; (repeat (simp -dsimp (disch := (first | omega | assumption | (refine Bool.eq_false_iff.1 ?_; assumption))) only [wrap_in, if_pos, if_neg]; (try simp -dsimp [hc]))))))))
    all_goals exact .refl _
end Go.Proofs.YtlodpljdhdhfmaaGreat
/- Top: what chapter 4's examples say. -/
namespace Go.Proofs.YtlodpljdhdhfmaaGreat
open Go.RowKit
theorem sFaceT (s w fr : Int) : SC Tryz.prog 17 [I s, I w, I fr] (cF (dlF s w fr)) := by
  refine law_turrettop_pubFace _ _ (by simp) ?_
  unfold dlF
  (repeat' (first | ((first | with_reducible refine st_skip ?_ | with_reducible refine st_exit ?_); (try simp only [seqQ, blockQ, loopQ, forQ, whileQ, reduceIte, Nat.reduceEqDiff])) | (with_reducible refine st_ret ?_; ((try simp only [seqQ, blockQ, loopQ, forQ, whileQ]); first | (with_reducible refine retM_ret ?_) | refine retQ_ret ?_; simp)) | refine st_seq ?_ | refine st_block ?_ | ((with_reducible show (STri _ _ _ _ _) ∧ (STri _ _ _ _ _)); refine And.intro ?_ ?_) | ((first | refine st_reg ?_ | refine buildP_frz ?_ | refine appP_own ?_) <;> (simp -dsimp; (repeat (simp -dsimp (disch := (first | omega | assumption | (refine Bool.eq_false_iff.1 ?_; assumption))) only [wrap_in, if_pos, if_neg]; (try simp -dsimp))))) | ((first | refine guardP_of (fun hc => ?_) (fun hc => ?_) | refine st_cond rfl (fun hc => ?_) (fun hc => ?_)) <;> (try simp only [lqA, lqB, lqC, lqD, lqE, lqF, lqG, lqH, lqI, lqJ, lqK, lqL, lqM, lqN, lqO] at hc) <;> (try (exfalso; first | omega | exact bool_tf hc (by assumption) | exact bool_ft hc (by assumption) | exact absurd (by assumption) hc)) <;> (first | with_reducible show STri _ _ _ _ _ _ | (simp -dsimp [hc]; (repeat (simp -dsimp (disch := (first | omega | assumption | (refine Bool.eq_false_iff.1 ?_; assumption))) only [wrap_in, if_pos, if_neg]; (try simp -dsimp [hc]))))))))
  all_goals exact .refl _
theorem sThirty : SC Tryz.prog 34 [] (cDw (dlW 30 (-2) 3 5 30 10)) := by
  refine law_turrettop_pubThirty _ _ (by simp) ?_
  unfold dlW
  have f := sFaceT 5 30 10
  unfold dlF at *
  simp only [cF, rowF, slLd, rowL, List.map_cons, List.map_nil] at f
  (repeat' (first | ((first | with_reducible refine st_skip ?_ | with_reducible refine st_exit ?_); (try simp only [seqQ, blockQ, loopQ, forQ, whileQ, reduceIte, Nat.reduceEqDiff])) | (with_reducible refine st_ret ?_; ((try simp only [seqQ, blockQ, loopQ, forQ, whileQ]); first | (with_reducible refine retM_ret ?_) | refine retQ_ret ?_; simp)) | refine st_seq ?_ | refine st_block ?_ | ((with_reducible show (STri _ _ _ _ _) ∧ (STri _ _ _ _ _)); refine And.intro ?_ ?_) | ((first | refine st_reg ?_ | refine buildP_frz ?_ | refine appP_own ?_ | refine callP_b (f) rfl ?_ | refine callP_b (sSpanT (-2) 3) rfl ?_) <;> (simp -dsimp; (repeat (simp -dsimp (disch := (first | omega | assumption | (refine Bool.eq_false_iff.1 ?_; assumption))) only [wrap_in, if_pos, if_neg]; (try simp -dsimp))))) | ((first | refine guardP_of (fun hc => ?_) (fun hc => ?_) | refine st_cond rfl (fun hc => ?_) (fun hc => ?_)) <;> (try simp only [lqA, lqB, lqC, lqD, lqE, lqF, lqG, lqH, lqI, lqJ, lqK, lqL, lqM, lqN, lqO] at hc) <;> (try (exfalso; first | omega | exact bool_tf hc (by assumption) | exact bool_ft hc (by assumption) | exact absurd (by assumption) hc)) <;> (first | with_reducible show STri _ _ _ _ _ _ | (simp -dsimp [hc]; (repeat (simp -dsimp (disch := (first | omega | assumption | (refine Bool.eq_false_iff.1 ?_; assumption))) only [wrap_in, if_pos, if_neg]; (try simp -dsimp [hc]))))))))
  all_goals exact .refl _
theorem th_off : SC Tryz.prog 18 [cDw (dlW 30 (-2) 3 5 30 10), I 0, I 2400, cS (-5) 5] (.tup [cS (-48) (-18), I 0]) := by
  have h := sOff (dlW 30 (-2) 3 5 30 10) (dl_len _ _ _ _ _ _) 0 2400 (-5) 5
  have h1 : lookErr (dlW 30 (-2) 3 5 30 10) 0 2400 (-5) 5 = 0 := by decide +kernel
  have h2 : offLo (lookOf (dlW 30 (-2) 3 5 30 10) 0 2400 (-5) 5) = -48 := by decide +kernel
  have h3 : offHi (lookOf (dlW 30 (-2) 3 5 30 10) 0 2400 (-5) 5) = -18 := by decide +kernel
  unfold rOff at h
  rw [if_pos h1, h2, h3] at h
  exact h
theorem th_raw : showRaw (lookOf (dlW 30 (-2) 3 5 30 10) 0 600 (-5) 5) = [(570, 570), (600, 600)] := by decide +kernel
theorem th_show : SC Tryz.prog 19 [cDw (dlW 30 (-2) 3 5 30 10), I 0, I 600, cS (-5) 5] (.tup [slS [(570, 570), (600, 600)], I 0]) := by
  have h := sShows (dlW 30 (-2) 3 5 30 10) (dl_len _ _ _ _ _ _) 0 600 (-5) 5
  have h1 : lookErr (dlW 30 (-2) 3 5 30 10) 0 600 (-5) 5 = 0 := by decide +kernel
  unfold rShows showL at h
  rw [if_pos h1, th_raw, show joinL [(570, 570), (600, 600)] = [(570, 570), (600, 600)] from sep_unique (joinL_sep (by simp)).1 ⟨by simp, by simp⟩ (joinL_sep (by simp)).2] at h
  exact h
set_option maxRecDepth 100000 in
theorem sPubDial : SC Tryz.prog 16 [] (B true) := by
  refine law_turrettop_pubDial _ _ (by simp) ?_
  have a := sThirty
  have o := th_off
  have s := th_show
  simp only [cDw, cS, slS, rowSd, List.map_cons, List.map_nil] at a o s
  (repeat' (first | ((first | with_reducible refine st_skip ?_ | with_reducible refine st_exit ?_); (try simp only [seqQ, blockQ, loopQ, forQ, whileQ, reduceIte, Nat.reduceEqDiff])) | (with_reducible refine st_ret ?_; ((try simp only [seqQ, blockQ, loopQ, forQ, whileQ]); first | (with_reducible refine retM_ret ?_) | refine retQ_ret ?_; simp)) | refine st_seq ?_ | refine st_block ?_ | ((with_reducible show (STri _ _ _ _ _) ∧ (STri _ _ _ _ _)); refine And.intro ?_ ?_) | ((first | refine st_reg ?_ | refine buildP_own ?_ | refine appP_own ?_ | refine callP_b (a) rfl ?_ | refine callP_b (o) rfl ?_ | refine callP_b (s) rfl ?_ | refine callP_b (sSpanT (-5) 5) rfl ?_ | refine callP_b (sSpanT (-48) (-18)) rfl ?_ | refine callP_b (sSpanT 570 570) rfl ?_ | refine callP_b (sSpanT 600 600) rfl ?_) <;> (simp -dsimp; (repeat (simp -dsimp (disch := (first | omega | assumption | (refine Bool.eq_false_iff.1 ?_; assumption))) only [wrap_in, if_pos, if_neg]; (try simp -dsimp))))) | ((first | refine guardP_of (fun hc => ?_) (fun hc => ?_) | refine st_cond rfl (fun hc => ?_) (fun hc => ?_)) <;> (try simp only [lqA, lqB, lqC, lqD, lqE, lqF, lqG, lqH, lqI, lqJ, lqK, lqL, lqM, lqN, lqO] at hc) <;> (try (exfalso; first | omega | exact bool_tf hc (by assumption) | exact bool_ft hc (by assumption) | exact absurd (by assumption) hc)) <;> (first | with_reducible show STri _ _ _ _ _ _ | (simp -dsimp [hc]; (repeat (simp -dsimp (disch := (first | omega | assumption | (refine Bool.eq_false_iff.1 ?_; assumption))) only [wrap_in, if_pos, if_neg]; (try simp -dsimp [hc]))))))))
  all_goals exact .refl _
end Go.Proofs.YtlodpljdhdhfmaaGreat
/- Top: a dial as a witness. -/
namespace Go.Proofs.YtlodpljdhdhfmaaGreat
open Go.RowKit
def cV5 (a b c d e : Int) : CV := .agg [.val (.int .u8 a), .val (.int .u8 b), .val (.int .u8 c), .val (.int .u8 d), .val (.int .u8 e)]
structure DwFact (t ol oh : Int) (sh : List (Int × Int)) : Prop where
  lo : -600 ≤ ol
  le : ol ≤ oh
  hi : oh ≤ 600
  ne : 0 < sh.length
  len : sh.length ≤ 1000000000
  row : ∀ y ∈ sh, ((0 ≤ y.1 ∧ y.1 < 43200) ∧ (y.1 - t - ol) % 43200 ≤ oh - ol) ∧ (0 ≤ y.2 ∧ y.2 < 43200) ∧ (y.2 - t - ol) % 43200 ≤ oh - ol
theorem dw_fact {k : Lo} (hk : LoSm k) (hf : k.f.lo ≤ k.f.hi) (h1 : -600 ≤ k.w.elo - k.w.jump + k.f.lo - slackI k.f.links) (h2 : k.w.ehi + k.f.hi ≤ 600) : DwFact k.at' (offLo k) (offHi k) (showL k) := by
  obtain ⟨a, b, c⟩ := look_off hk hf
  have hin : ∀ n, Memb (showL k) n → (0 ≤ n ∧ n < 43200) ∧ (n - k.at' - offLo k) % 43200 ≤ offHi k - offLo k := fun n hn => by
    obtain ⟨q, m, m1, m2, m3⟩ := show_in hk hf hn
    exact ⟨q, by omega⟩
  refine ⟨by omega, b, by omega, show_ne hk hf, ?_, fun y hy => ?_⟩
  · have l1 : (showL k).length ≤ (showRaw k).length := joinK_len _ _
    have l2 := cutK_len (haL k) (haL k).length
    have l3 := (haL_len hk).2
    unfold showRaw at l1
    omega
  · obtain ⟨r1, r2⟩ := show_row hk hf hy
    exact ⟨hin _ r1, hin _ r2⟩
set_option maxRecDepth 100000 in
set_option maxHeartbeats 2000000 in
theorem lDialWire (a b c d e at' o : Int) (ha : 0 ≤ a ∧ a ≤ 255) (hb : 0 ≤ b ∧ b ≤ 255) (hc : 0 ≤ c ∧ c ≤ 255) (hd : 0 ≤ d ∧ d ≤ 255) (he : 0 ≤ e ∧ e ≤ 255) (hat : 0 ≤ at' ∧ at' ≤ 65535) (ho : 0 ≤ o ∧ o ≤ 255) :
    SC Tryz.prog 4 [cV5 a b c d e, .val (.int .u16 at'), .val (.int .u8 o)] (B true) := by
  refine law_turrettop_TopDialWire _ _ (by simp) ?_
  unfold cV5
  obtain ⟨a0, a1⟩ := ha
  obtain ⟨b0, b1⟩ := hb
  obtain ⟨c0, c1⟩ := hc
  obtain ⟨d0, d1⟩ := hd
  obtain ⟨e0, e1⟩ := he
  obtain ⟨t0, t1⟩ := hat
  obtain ⟨o0, o1⟩ := ho
  have m1 : a.tmod 3 = a % 3 := Int.tmod_eq_emod_of_nonneg a0
  have m2 : (-b).tmod 30 = -(b % 30) := by rw [Int.neg_tmod, Int.tmod_eq_emod_of_nonneg b0]
  have m3 : c.tmod 30 = c % 30 := Int.tmod_eq_emod_of_nonneg c0
  have m4 : d.tmod 20 = d % 20 := Int.tmod_eq_emod_of_nonneg d0
  have m5 : (-c).tmod 40 = -(c % 40) := by rw [Int.neg_tmod, Int.tmod_eq_emod_of_nonneg c0]
  have m6 : b.tmod 40 = b % 40 := Int.tmod_eq_emod_of_nonneg b0
  have m7 : o.tmod 180 = o % 180 := Int.tmod_eq_emod_of_nonneg o0
  obtain ⟨j, hj, hj2⟩ : ∃ j : Int, List.take 1 (List.drop (a % 3).toNat [SV.c (CV.val (Value.int IntKind.i64 1)), SV.c (CV.val (Value.int IntKind.i64 20)), SV.c (CV.val (Value.int IntKind.i64 60))]) = [SV.c (I j)] ∧ (j = 1 ∨ j = 20 ∨ j = 60) := by
    have : a % 3 = 0 ∨ a % 3 = 1 ∨ a % 3 = 2 := by omega
    rcases this with h | h | h <;> rw [h]
    · exact ⟨1, rfl, by omega⟩
    · exact ⟨20, rfl, by omega⟩
    · exact ⟨60, rfl, by omega⟩
  have hok : DlOk j (-(b % 30)) (c % 30) (d % 20) (e - 128) 15 := ⟨by omega, by omega, by omega, by omega, by omega, by omega, by omega, by omega, by omega, by omega⟩
  have hlk := dl_look hok (t := at' + 1000) (wlo := -(c % 40)) (whi := b % 40) (by omega) (by omega) (by omega) (by omega) (by omega)
  have hk := look_sm hlk
  have hF := dw_fact hk (by show (0 : Int) ≤ 0; decide) (by
    show -600 ≤ -(b % 30) - j + 0 - slackI [⟨d % 20, 1, 1⟩]
    rw [slack_one _ (by omega)]
    omega) (by show c % 30 + 0 ≤ 600; omega)
  have so := sOff (dlW j (-(b % 30)) (c % 30) (d % 20) (e - 128) 15) (dl_len _ _ _ _ _ _) 0 (at' + 1000) (-(c % 40)) (b % 40)
  have ss := sShows (dlW j (-(b % 30)) (c % 30) (d % 20) (e - 128) 15) (dl_len _ _ _ _ _ _) 0 (at' + 1000) (-(c % 40)) (b % 40)
  unfold rOff at so
  unfold rShows at ss
  rw [if_pos hlk] at so ss
  have hat : (lookOf (dlW j (-(b % 30)) (c % 30) (d % 20) (e - 128) 15) 0 (at' + 1000) (-(c % 40)) (b % 40)).at' = at' + 1000 := rfl
  rw [hat] at hF
  generalize offLo (lookOf (dlW j (-(b % 30)) (c % 30) (d % 20) (e - 128) 15) 0 (at' + 1000) (-(c % 40)) (b % 40)) = ol at *
  generalize offHi (lookOf (dlW j (-(b % 30)) (c % 30) (d % 20) (e - 128) 15) 0 (at' + 1000) (-(c % 40)) (b % 40)) = oh at *
  generalize showL (lookOf (dlW j (-(b % 30)) (c % 30) (d % 20) (e - 128) 15) 0 (at' + 1000) (-(c % 40)) (b % 40)) = sh at *
  clear hat hk hlk
  obtain ⟨f1, f2, f3, f4, f5, f6⟩ := hF
  have sf := sFaceT (d % 20) (e - 128) 15
  unfold dlF at sf
  unfold dlW dlF at so ss
  simp only [cF, rowF, slLd, rowL, cDw, slF, cS, List.map_cons, List.map_nil] at sf so ss
  (repeat' (first | ((first | with_reducible refine st_skip ?_ | with_reducible refine st_exit ?_); (try simp only [seqQ, blockQ, loopQ, forQ, whileQ, reduceIte, Nat.reduceEqDiff])) | (with_reducible refine st_ret ?_; ((try simp only [seqQ, blockQ, loopQ, forQ, whileQ]); first | (with_reducible refine retM_ret ?_) | refine retQ_ret ?_; simp [m1, m2, m3, m4, m5, m6, hj])) | refine st_seq ?_ | refine st_block ?_ | ((with_reducible show (STri _ _ _ _ _) ∧ (STri _ _ _ _ _)); refine And.intro ?_ ?_) | ((first | refine st_reg ?_ | refine buildP_frz ?_ | refine appP_own ?_ | refine callP_b (sSpanT (-(b % 30)) (c % 30)) rfl ?_ | refine callP_b (sf) rfl ?_ | refine callP_b (sSpanT (-(c % 40)) (b % 40)) rfl ?_ | refine callP_b (so) rfl ?_ | refine callP_b (ss) rfl ?_) <;> (simp -dsimp [m1, m2, m3, m4, m5, m6, hj]; (repeat (simp -dsimp (disch := (first | omega | assumption | (refine Bool.eq_false_iff.1 ?_; assumption))) only [wrap_in, if_pos, if_neg]; (try simp -dsimp [m1, m2, m3, m4, m5, m6, hj]))))) | ((first | refine guardP_of (fun hc => ?_) (fun hc => ?_) | refine st_cond rfl (fun hc => ?_) (fun hc => ?_)) <;> (try simp only [lqA, lqB, lqC, lqD, lqE, lqF, lqG, lqH, lqI, lqJ, lqK, lqL, lqM, lqN, lqO] at hc) <;> (try (exfalso; first | omega | exact bool_tf hc (by assumption) | exact bool_ft hc (by assumption) | exact absurd (by assumption) hc)) <;> (first | with_reducible show STri _ _ _ _ _ _ | (simp -dsimp [m1, m2, m3, m4, m5, m6, hj, hc]; (repeat (simp -dsimp (disch := (first | omega | assumption | (refine Bool.eq_false_iff.1 ?_; assumption))) only [wrap_in, if_pos, if_neg]; (try simp -dsimp [m1, m2, m3, m4, m5, m6, hj, hc]))))))))
  clear so ss sf hok hj hj2 m1 m2 m3 m4 m5 m6
  have hv : validV (clkW ol oh 0 0) = true := clk_valid (by omega) (by omega) (by omega) (by omega) (by omega) (by omega)
  have sn : ∀ said : Int, 0 ≤ said → said < 43200 → (said - (at' + 1000) - ol) % 43200 ≤ oh - ol → SC Tryz.prog 21 [.agg [I 1, I ol, I oh, I 0, I 0, I 0, I 0, .val (.slice none 0 0)], I (at' + 1000), I said, I 0] (B true) := fun said s0 s1 s2 => by
    have h := sNoted (clkW ol oh 0 0) rfl hv (at' + 1000) said 0 (by omega) (by omega) (clk_said s0 s1) (by omega) (by omega)
    have hr : rightN (oneB (clkW ol oh 0 0) ⟨0, at' + 1000 - 0, said⟩ 0 0) ⟨0, at' + 1000 - 0, said⟩ 0 = true := by
      rw [one_clk]
      unfold within1
      simp
      omega
    rw [hr] at h
    exact h
  refine st_for [10] sh.length (fun k T H => T = [(2, .c (.val (.int .u8 o))), (8, .c (I (at' + 1000))), (10, .ptr 10 0), (12, .c (.sl 2 (sh.map rowSd))), (14, .c (.sl 8 ((armW (clkW ol oh 0 0)).map rowNil))), (15, .c (I k))] ∧
    H = [(10, .box 34 [.c (I ol), .c (I oh)])]) (by simp) ⟨by simp [armW, clkW, sigW, rowNil], by simp⟩ ?_
  rintro k T H hk ⟨rfl, rfl⟩
  by_cases hlt : k < sh.length
  · obtain ⟨⟨⟨r1, r2⟩, r3⟩, ⟨r4, r5⟩, r6⟩ := f6 _ (List.getElem_mem hlt)
    have q1 := sRestT (sh[k].1) 43200 (by omega) (by omega)
    have q2 := sRestT (sh[k].2) 43200 (by omega) (by omega)
    rw [Int.emod_eq_of_lt r1 r2] at q1
    rw [Int.emod_eq_of_lt r4 r5] at q2
    have n1 := sn _ r1 r2 r3
    have n2 := sn _ r4 r5 r6
    unfold armW clkW sigW rowNil
    (repeat' (first | ((first | with_reducible refine st_skip ?_ | with_reducible refine st_exit ?_); (try simp only [seqQ, blockQ, loopQ, forQ, whileQ, reduceIte, Nat.reduceEqDiff])) | (with_reducible refine st_ret ?_; ((try simp only [seqQ, blockQ, loopQ, forQ, whileQ]); first | (with_reducible refine retM_ret ?_) | refine retQ_ret ?_; simp [hlt])) | refine st_seq ?_ | refine st_block ?_ | ((with_reducible show (STri _ _ _ _ _) ∧ (STri _ _ _ _ _)); refine And.intro ?_ ?_) | ((first | refine st_reg ?_ | refine buildP_own ?_ | refine appP_own ?_ | refine callP_b (q1) rfl ?_ | refine callP_b (q2) rfl ?_ | refine callP_b (n1) rfl ?_ | refine callP_b (n2) rfl ?_) <;> (simp -dsimp [hlt]; (repeat (simp -dsimp (disch := (first | omega | assumption | (refine Bool.eq_false_iff.1 ?_; assumption))) only [wrap_in, if_pos, if_neg]; (try simp -dsimp [hlt]))))) | ((first | refine guardP_of (fun hc => ?_) (fun hc => ?_) | refine st_cond rfl (fun hc => ?_) (fun hc => ?_)) <;> (try simp only [lqA, lqB, lqC, lqD, lqE, lqF, lqG, lqH, lqI, lqJ, lqK, lqL, lqM, lqN, lqO] at hc) <;> (try (exfalso; first | omega | exact bool_tf hc (by assumption) | exact bool_ft hc (by assumption) | exact absurd (by assumption) hc)) <;> (first | with_reducible show STri _ _ _ _ _ _ | (simp -dsimp [hlt, hc]; (repeat (simp -dsimp (disch := (first | omega | assumption | (refine Bool.eq_false_iff.1 ?_; assumption))) only [wrap_in, if_pos, if_neg]; (try simp -dsimp [hlt, hc]))))))))
    exact ⟨hlt, by simp, by simp [armW, clkW, sigW, rowNil], by simp⟩
  · have : k = sh.length := by omega
    subst this
    have o2 := Int.emod_nonneg o (show (180 : Int) ≠ 0 by omega)
    have o3 := Int.emod_lt_of_pos o (show (0 : Int) < 180 by omega)
    generalize o % 180 = x at *
    have q := sRestT (at' + 1000 + oh + 1 + x) 43200 (by omega) (by omega)
    have z1 := Int.emod_nonneg (at' + 1000 + oh + 1 + x) (show (43200 : Int) ≠ 0 by omega)
    have z2 := Int.emod_lt_of_pos (at' + 1000 + oh + 1 + x) (show (0 : Int) < 43200 by omega)
    have z3 : ¬ ((at' + 1000 + oh + 1 + x) % 43200 - (at' + 1000 + 0) - ol) % 43200 ≤ oh - ol := by omega
    generalize (at' + 1000 + oh + 1 + x) % 43200 = sd at *
    have ok : ArmOk (clkW ol oh 0 0) (at' + 1000) sd 0 (at' + 1000) (at' + 1000 + 9) (-50) 50 := arm_err (by omega) (by omega) (by omega) (by omega) (by omega) (by omega) (by omega) (by omega) (by omega) (by omega) (by omega) (by omega) (by omega) (by omega) (by omega) (by omega) (by omega) (by omega) (by omega) (by omega) (by omega) (by omega)
    have g := arm_convict ok (by simp [clkW]) (by
      rw [arm_clk]; unfold within1; simp; omega)
    have g2 := sc_arg0 (c' := .sl 8 ((armW (clkW ol oh 0 0)).map rowNil)) g fun w N v hv => rep_nils (by simp [armW, clkW, sigW]) hv
    unfold armN at g2
    simp only [slN, rowN, List.map_cons, List.map_nil, Int.sub_zero] at g2
    have p1 := sPubDial
    have p2 := sPubWire
    generalize (armW (clkW ol oh 0 0)).map rowNil = W at *
    have f4' : (0 : Int) < sh.length := by omega
    (repeat' (first | ((first | with_reducible refine st_skip ?_ | with_reducible refine st_exit ?_); (try simp only [seqQ, blockQ, loopQ, forQ, whileQ, reduceIte, Nat.reduceEqDiff])) | (with_reducible refine st_ret ?_; ((try simp only [seqQ, blockQ, loopQ, forQ, whileQ]); first | (with_reducible refine retM_ret ?_) | refine retQ_ret ?_; simp [m7, f4'])) | refine st_seq ?_ | refine st_block ?_ | ((with_reducible show (STri _ _ _ _ _) ∧ (STri _ _ _ _ _)); refine And.intro ?_ ?_) | ((first | refine st_reg ?_ | refine buildP_frz ?_ | refine appP_own ?_ | refine callP_b (q) rfl ?_ | refine callP_b (sSpanT (-50) 50) rfl ?_ | refine callP_b (g2) rfl ?_ | refine callP_b (p1) rfl ?_ | refine callP_b (p2) rfl ?_) <;> (simp -dsimp [m7, f4']; (repeat (simp -dsimp (disch := (first | omega | assumption | (refine Bool.eq_false_iff.1 ?_; assumption))) only [wrap_in, if_pos, if_neg]; (try simp -dsimp [m7, f4']))))) | ((first | refine guardP_of (fun hc => ?_) (fun hc => ?_) | refine st_cond rfl (fun hc => ?_) (fun hc => ?_)) <;> (try simp only [lqA, lqB, lqC, lqD, lqE, lqF, lqG, lqH, lqI, lqJ, lqK, lqL, lqM, lqN, lqO] at hc) <;> (try (exfalso; first | omega | exact bool_tf hc (by assumption) | exact bool_ft hc (by assumption) | exact absurd (by assumption) hc)) <;> (first | with_reducible show STri _ _ _ _ _ _ | (simp -dsimp [m7, f4', hc]; (repeat (simp -dsimp (disch := (first | omega | assumption | (refine Bool.eq_false_iff.1 ?_; assumption))) only [wrap_in, if_pos, if_neg]; (try simp -dsimp [m7, f4', hc]))))))))
    all_goals exact .refl _
end Go.Proofs.YtlodpljdhdhfmaaGreat
/- From a contract by value to a given statement: arguments of plain types are opened, and read again behind the call. -/
namespace Go.Proofs.YtlodpljdhdhfmaaGreat
open Go.RowKit Go.ChangeShapes Go.WideShapes
section
variable {P : Program}
def tyF (P : Program) (r : TypeId → List CV → Prop) : List Field → List CV → Prop
  | [], cs => cs = []
  | f :: fs, cs => ∃ c1 c2, cs = c1 ++ c2 ∧ r f.type c1 ∧ tyF P r fs c2
def tyA (r : List CV → Prop) : Nat → List CV → Prop
  | 0, cs => cs = []
  | n + 1, cs => ∃ c1 c2, cs = c1 ++ c2 ∧ r c1 ∧ tyA r n c2
def tyC (P : Program) : Nat → TypeId → List CV → Prop
  | 0, _, _ => False
  | d + 1, t, cs => match P.underlying t with
    | some .bool => ∃ b, cs = [.val (.bool b)]
    | some (.int k) => ∃ n, cs = [.val (.int k n)] ∧ (Lit.int k n).wf = true
    | some (.slice e) => ∃ rows, cs = [.sl (P.cellsOf e) rows] ∧ rows.length ≤ maxLen ∧ ∀ row ∈ rows, tyC P d e row
    | some (.struct fs) => tyF P (tyC P d) fs.toList cs
    | some (.array n e) => tyA (tyC P d e) n cs
    | _ => False
theorem tyC_int {d : Nat} {t : TypeId} {k : IntKind} {cs : List CV} (hu : P.underlying t = some (.int k)) (h : tyC P d t cs) : ∃ n, cs = [.val (.int k n)] ∧ (Lit.int k n).wf = true := by
  cases d with
  | zero => exact h.elim
  | succ d => unfold tyC at h; rw [hu] at h; exact h
theorem tyC_array {d : Nat} {t e : TypeId} {n : Nat} {cs : List CV} (hu : P.underlying t = some (.array n e)) (h : tyC P d t cs) : ∃ d', tyA (tyC P d' e) n cs := by
  cases d with
  | zero => exact h.elim
  | succ d => unfold tyC at h; rw [hu] at h; exact ⟨d, h⟩
theorem agg_cells {v : Value} (h : v.cells.size ≠ 1) : v = .agg v.cells := by
  cases v <;> first | rfl | (exact absurd rfl h)
def tileB (P : Program) : List Field → Nat → Nat → Bool
  | [], acc, n => acc == n
  | f :: fs, acc, n => f.offset == acc && tileB P fs (acc + P.cellsOf f.type) n
def plainB (P : Program) : Nat → TypeId → Bool
  | 0, _ => false
  | d + 1, t => match P.underlying t with
    | some .bool => P.cellsOf t == 1
    | some (.int _) => P.cellsOf t == 1
    | some (.slice e) => P.cellsOf t == 1 && decide (0 < P.cellsOf e) && plainB P d e
    | some (.struct fs) => tileB P fs.toList 0 (P.cellsOf t) && fs.toList.all fun f => plainB P d f.type
    | some (.array n e) => P.cellsOf t == n * P.cellsOf e && plainB P d e
    | _ => false
theorem tile_le : ∀ {fs : List Field} {acc n : Nat}, tileB P fs acc n = true → acc ≤ n
  | [], _, _, h => by simp [tileB] at h; omega
  | f :: fs, acc, n, h => by
    simp only [tileB, Bool.and_eq_true] at h
    have := tile_le h.2
    omega
theorem tyF_len {fs : List Field} {r : TypeId → List CV → Prop} (hr : ∀ (f : Field) c, f ∈ fs → r f.type c → c.length = P.cellsOf f.type ∧ c.all CV.one = true) : ∀ {fs' : List Field}, (∀ f ∈ fs', f ∈ fs) → ∀ {acc n : Nat} {cs : List CV}, tileB P fs' acc n = true → tyF P r fs' cs → acc + cs.length = n ∧ cs.all CV.one = true
  | [], _, acc, n, cs, ht, h => by simp [tileB] at ht; simp [tyF] at h; subst h; simp [ht]
  | f :: fs', hm, acc, n, cs, ht, h => by
    simp only [tileB, Bool.and_eq_true] at ht
    obtain ⟨c1, c2, rfl, h1, h2⟩ := h
    obtain ⟨l1, o1⟩ := hr f c1 (hm f (by simp)) h1
    obtain ⟨l2, o2⟩ := tyF_len hr (fun g hg => hm g (by simp [hg])) ht.2 h2
    rw [List.length_append, List.all_append, o1, o2]
    exact ⟨by omega, rfl⟩
theorem tyA_len {r : List CV → Prop} {k : Nat} (hr : ∀ c, r c → c.length = k ∧ c.all CV.one = true) : ∀ {n : Nat} {cs : List CV}, tyA r n cs → cs.length = n * k ∧ cs.all CV.one = true
  | 0, cs, h => by simp [tyA] at h; subst h; simp
  | n + 1, cs, h => by
    obtain ⟨c1, c2, rfl, h1, h2⟩ := h
    obtain ⟨l1, o1⟩ := hr c1 h1
    obtain ⟨l2, o2⟩ := tyA_len hr h2
    rw [List.length_append, List.all_append, o1, o2, l1, l2, Nat.succ_mul]
    exact ⟨by omega, rfl⟩
theorem tyC_len : ∀ {d : Nat} {t : TypeId} {cs : List CV}, plainB P d t = true → tyC P d t cs → cs.length = P.cellsOf t ∧ cs.all CV.one = true
  | 0, _, _, hp, _ => by simp [plainB] at hp
  | d + 1, t, cs, hp, h => by
    unfold plainB at hp
    unfold tyC at h
    split at hp <;> rename_i hu
    · rw [hu] at h; obtain ⟨b, rfl⟩ := h; simp at hp; simp [hp, CV.one]
    · rw [hu] at h; obtain ⟨n, rfl, _⟩ := h; simp at hp; simp [hp, CV.one]
    · rw [hu] at h; obtain ⟨rows, rfl, _⟩ := h; simp at hp; simp [hp.1.1, CV.one]
    · rw [hu] at h
      simp only [Bool.and_eq_true, List.all_eq_true] at hp
      obtain ⟨l, o⟩ := tyF_len (P := P) (fun f c hf hc => tyC_len (hp.2 f hf) hc) (fun f hf => hf) hp.1 h
      exact ⟨by omega, o⟩
    · rw [hu] at h
      simp only [Bool.and_eq_true, beq_iff_eq] at hp
      obtain ⟨l, o⟩ := tyA_len (fun c hc => tyC_len hp.2 hc) h
      exact ⟨by rw [l, hp.1], o⟩
    · simp at hp
def RCs (w : World) (cs : List CV) (vs : List Value) : Prop := cs.length = vs.length ∧ ∀ (i : Nat) x v, cs[i]? = some x → vs[i]? = some v → RepC w (fun _ => False) x v
theorem RCs.append {w : World} {a b : List CV} {c d : List Value} (h : RCs w a c) (k : RCs w b d) : RCs w (a ++ b) (c ++ d) := by
  refine ⟨by rw [List.length_append, List.length_append, h.1, k.1], fun i x v hx hv => ?_⟩
  rw [List.getElem?_append] at hx hv
  rw [← h.1] at hv
  split at hx
  · rename_i hi; rw [if_pos hi] at hv; exact h.2 i x v hx hv
  · rename_i hi; rw [if_neg hi] at hv; exact k.2 _ x v hx hv
theorem RCs.one {w : World} {x : CV} {v : Value} (h : RepC w (fun _ => False) x v) : RCs w [x] [v] := ⟨rfl, fun i y u hx hv => by
  cases i with
  | zero => cases hx; cases hv; exact h
  | succ i => simp at hx⟩
section
variable {H : Type} {enc : TypeId × Value → H} {w : World} {spare : Nat → Bool} {held : Bool}
theorem cell_at {w : World} {a : Addr} {k len i j : Nat} {vr : List Value} (ha : a.spot = none) (h : w.cells? 0 (a.add (i * k)) k = some vr) (hj : j < k) : w.cell? ⟨a.block, a.off + i * k + j, none⟩ = vr[j]? := by
  obtain ⟨_, _, h3⟩ := World.cells?_some h
  rw [← h3 j hj]
  have e : ∀ m : Nat, a.add m = ⟨a.block, a.off + m, none⟩ := fun m => by
    unfold Addr.add
    split
    · rename_i h0; subst h0; cases a; simp at ha; simp [ha]
    · rfl
  rw [e]
  unfold Addr.add
  split
  · rename_i h0; subst h0; rfl
  · rfl
theorem open_tyC : ∀ {d n : Nat} {t : TypeId} {vs : List Value} {x : DataW H × List MemPlace}, plainB P d t = true → DataW.trod enc P w 0 spare held n t vs = some x → ∃ cs, tyC P d t cs ∧ RCs w cs vs
  | 0, _, _, _, _, hp, _ => by simp [plainB] at hp
  | d + 1, n, t, vs, x, hp, h => by
    unfold plainB at hp
    split at hp <;> rename_i hu
    · obtain ⟨b, rfl, _⟩ := DataW.trod_bool hu h
      exact ⟨[.val (.bool b)], by unfold tyC; rw [hu]; exact ⟨b, rfl⟩, .one (.val _)⟩
    · rename_i k
      obtain ⟨m, rfl, _, hw⟩ := DataW.trod_int hu h
      exact ⟨[.val (.int k m)], by unfold tyC; rw [hu]; exact ⟨m, rfl, hw⟩, .one (.val _)⟩
    · rename_i e
      simp only [Bool.and_eq_true, beq_iff_eq, decide_eq_true_eq] at hp
      obtain ⟨⟨_, hk⟩, hpe⟩ := hp
      rcases DataW.trod_slice hu h with ⟨rfl, _⟩ | ⟨a, len, cap, elems, rest, m, _, rfl, _, _, hl, hm, hlen, hel, _⟩
      · exact ⟨[.sl (P.cellsOf e) []], by unfold tyC; rw [hu]; exact ⟨[], rfl, Nat.zero_le _, by simp⟩, .one (.nil _ none 0 (Nat.zero_le _))⟩
      · have hrow : ∀ i, i < len → ∃ vr cr, w.cells? 0 (a.add (i * P.cellsOf e)) (P.cellsOf e) = some vr ∧ tyC P d e cr ∧ RCs w cr vr := fun i hi => by
          have h1 := hel i hi
          rw [List.getElem?_eq_getElem (by omega)] at h1
          obtain ⟨vr, h2, h3⟩ := Option.bind_eq_some_iff.1 h1
          obtain ⟨cr, h4, h5⟩ := open_tyC hpe h3
          exact ⟨vr, cr, h2, h4, h5⟩
        by_cases h0 : len = 0
        · subst h0
          exact ⟨[.sl (P.cellsOf e) []], by unfold tyC; rw [hu]; exact ⟨[], rfl, Nat.zero_le _, by simp⟩, .one (.nil _ (some a) cap hm)⟩
        have hch : ∃ (V : Nat → List Value) (C : Nat → List CV), ∀ i, i < len → w.cells? 0 (a.add (i * P.cellsOf e)) (P.cellsOf e) = some (V i) ∧ tyC P d e (C i) ∧ RCs w (C i) (V i) := by
          refine ⟨fun i => if h : i < len then Classical.choose (hrow i h) else [], fun i => if h : i < len then Classical.choose (Classical.choose_spec (hrow i h)) else [], fun i hi => ?_⟩
          simp only [dif_pos hi]
          exact Classical.choose_spec (Classical.choose_spec (hrow i hi))
        obtain ⟨V, C, hVC⟩ := hch
        have hfirst := hVC 0 (by omega)
        have hsp : a.spot = none := by
          obtain ⟨_, l1, h3⟩ := World.cells?_some hfirst.1
          have h4 := h3 0 hk
          rw [List.getElem?_eq_getElem (by omega)] at h4
          simp only [Nat.zero_mul, Addr.add, if_true] at h4
          unfold World.cell? at h4
          split at h4
          · split at h4
            · cases h4
            · rename_i hs; simpa using hs
          · cases h4
        have hblk : a.block < w.heap.size := by
          have := World.cells?_block hfirst.1 hk
          simpa [Addr.add] using this
        have hlenC : ∀ i, i < len → (C i).length = P.cellsOf e ∧ (C i).all CV.one = true := fun i hi => tyC_len hpe (hVC i hi).2.1
        have hget : ∀ (j : Nat) row, ((List.range len).map C)[j]? = some row → j < len ∧ row = C j := fun j row hj => by
          rw [List.getElem?_map] at hj
          obtain ⟨i, hi, rfl⟩ := Option.map_eq_some_iff.1 hj
          obtain ⟨h1, h2⟩ := List.getElem?_eq_some_iff.1 hi
          simp at h1 h2; subst h2; exact ⟨h1, rfl⟩
        have hsl := RepC.sl (w := w) (N := fun _ => False) (P.cellsOf e) ((List.range len).map C) a.block a.off cap (fun j i => ((V j)[i]?).getD undef) (by simpa using hl) hm hblk (fun h => h) (fun j row hj => by obtain ⟨h1, rfl⟩ := hget j row hj; exact hlenC j h1) (fun j row i y hj hy => by
            obtain ⟨h1, rfl⟩ := hget j row hj
            obtain ⟨q1, q2, q3⟩ := hVC j h1
            have hik : i < P.cellsOf e := by rw [← (hlenC j h1).1]; exact (List.getElem?_eq_some_iff.1 hy).1
            rw [cell_at (len := len) hsp q1 hik]
            have : i < (V j).length := by rw [← q3.1, (hlenC j h1).1]; exact hik
            rw [List.getElem?_eq_getElem this]; rfl) (fun j row i y hj hy => by
            obtain ⟨h1, rfl⟩ := hget j row hj
            obtain ⟨q1, q2, q3⟩ := hVC j h1
            have hik : i < P.cellsOf e := by rw [← (hlenC j h1).1]; exact (List.getElem?_eq_some_iff.1 hy).1
            have : i < (V j).length := by rw [← q3.1, (hlenC j h1).1]; exact hik
            refine q3.2 i y _ hy ?_
            rw [List.getElem?_eq_getElem this]; rfl)
        have ea : a = ⟨a.block, a.off, none⟩ := by cases a; simp at hsp; simp [hsp]
        rw [List.length_map, List.length_range, ← ea] at hsl
        have hrows : ∀ row ∈ (List.range len).map C, tyC P d e row := fun row hr => by
          obtain ⟨i, hi, rfl⟩ := List.mem_map.1 hr
          exact (hVC i (by simpa using hi)).2.1
        exact ⟨[.sl (P.cellsOf e) ((List.range len).map C)], by unfold tyC; rw [hu]; exact ⟨_, rfl, by simp; omega, hrows⟩, .one hsl⟩
    · rename_i fs
      simp only [Bool.and_eq_true, List.all_eq_true] at hp
      obtain ⟨xs, m, _, _, hlen, _, hf⟩ := DataW.trod_struct hu h
      have key : ∀ (fs' : List Field) (acc : Nat), (∀ f ∈ fs', plainB P d f.type = true ∧ ∃ y, DataW.trod enc P w 0 spare held m f.type ((vs.drop f.offset).take (P.cellsOf f.type)) = some y) → tileB P fs' acc (P.cellsOf t) = true → acc ≤ P.cellsOf t → ∃ cs, tyF P (tyC P d) fs' cs ∧ RCs w cs (vs.drop acc) := by
        intro fs'
        induction fs' with
        | nil =>
          intro acc _ ht _
          simp [tileB] at ht
          exact ⟨[], by simp [tyF], by constructor <;> simp [← hlen, ht] <;> omega⟩
        | cons f fs' ih =>
          intro acc hall ht hacc
          simp only [tileB, Bool.and_eq_true, beq_iff_eq] at ht
          obtain ⟨hpf, y, hy⟩ := hall f (by simp)
          obtain ⟨c1, t1, r1⟩ := open_tyC hpf hy
          have hlt := tile_le ht.2
          obtain ⟨c2, t2, r2⟩ := ih (acc + P.cellsOf f.type) (fun g hg => hall g (by simp [hg])) ht.2 hlt
          refine ⟨c1 ++ c2, ⟨c1, c2, rfl, t1, t2⟩, ?_⟩
          rw [ht.1] at r1
          have e : vs.drop acc = (vs.drop acc).take (P.cellsOf f.type) ++ vs.drop (acc + P.cellsOf f.type) := by rw [← List.drop_drop, List.take_append_drop]
          rw [e]; exact r1.append r2
      obtain ⟨cs, h1, h2⟩ := key fs.toList 0 (fun f hf' => by
        refine ⟨hp.2 f hf', ?_⟩
        obtain ⟨i, hi, he⟩ := List.getElem_of_mem hf'
        have := hf i f (by simp at hi; simp at he; simp [← he, hi])
        have hxl : i < xs.length := by simp at hi; omega
        rw [List.getElem?_eq_getElem hxl] at this
        exact ⟨_, this⟩) hp.1 (Nat.zero_le _)
      exact ⟨cs, by unfold tyC; rw [hu]; exact h1, by simpa using h2⟩
    · rename_i k e
      simp only [Bool.and_eq_true, beq_iff_eq] at hp
      obtain ⟨xs, m, _, _, hlen, hxs, hf⟩ := DataW.trod_array hu h
      have key : ∀ (r i : Nat), i + r = k → ∃ cs, tyA (tyC P d e) r cs ∧ RCs w cs (vs.drop (i * P.cellsOf e)) := by
        intro r
        induction r with
        | zero =>
          intro i hi
          have : vs.length ≤ i * P.cellsOf e := by rw [hlen, hp.1]; have : i = k := by omega
                                                   subst this; exact Nat.le_refl _
          exact ⟨[], by simp [tyA], by rw [List.drop_of_length_le this]; constructor <;> simp⟩
        | succ r ih =>
          intro i hi
          have h1 := hf i (by omega)
          rw [List.getElem?_eq_getElem (by omega)] at h1
          obtain ⟨c1, t1, r1⟩ := open_tyC hp.2 h1
          obtain ⟨c2, t2, r2⟩ := ih (i + 1) (by omega)
          refine ⟨c1 ++ c2, ⟨c1, c2, rfl, t1, t2⟩, ?_⟩
          have e' : vs.drop (i * P.cellsOf e) = (vs.drop (i * P.cellsOf e)).take (P.cellsOf e) ++ vs.drop ((i + 1) * P.cellsOf e) := by rw [Nat.succ_mul, ← List.drop_drop, List.take_append_drop]
          rw [e']; exact r1.append r2
      obtain ⟨cs, h1, h2⟩ := key k 0 (by omega)
      exact ⟨cs, by unfold tyC; rw [hu]; exact h1, by simpa using h2⟩
    · simp at hp
theorem trodAll_carry {w w' : World} {base : Nat} {spare : Nat → Bool} {held : Bool} : ∀ {ts : List TypeId} {vs : List Value} {ds : List (DataW H)} {ps : List MemPlace}, DataW.TrodAll enc P w base spare held ts vs ds ps → (∀ p ∈ ps, w.sameAt w' p) → DataW.TrodAll enc P w' base spare held ts vs ds ps
  | [], [], [], _, h, _ => h
  | _ :: _, _ :: _, _ :: _, _, ⟨p, q, ⟨n, h1⟩, h2, e⟩, hs =>
    ⟨p, q, ⟨n, DataW.trod_carry n _ _ _ h1 (fun x hx => hs x (by rw [e]; exact List.mem_append_left _ hx))⟩, trodAll_carry h2 (fun x hx => hs x (by rw [e]; exact List.mem_append_right _ hx)), e⟩
theorem post_ext {T : TypeId → Prop} (K : Kids P T) (hz : ∀ t e, T t → P.underlying t = some (.slice e) → 0 < P.cellsOf e) {f : Func} {s : ChangeSpec} {apart fresh handsOn again : Bool} {W W' : World} {args : Array Value} {v : Value} {ds gs : List (DataW H)} {before : List MemPlace}
    (hT : ∀ t ∈ f.params.toList, T t) (hsv : s.vars = []) (hW : DataW.Whole enc P f.params.toList s.vars apart W args.toList ds gs before)
    (hres : ∀ (b : Nat) (sp : Nat → Bool) (hd : Bool), DataW.TrodAll enc P W' b sp hd f.resultTypes.toList (v.resultList f.resultTypes.size) (s.fn H (ds ++ gs)).results [])
    (hargs : (s.fn H (ds ++ gs)).args = ds) (hvars : (s.fn H (ds ++ gs)).vars = []) (hx : Ext W W')
    (hok : ∀ (j : Nat) (t : TypeId) (r : Value), f.resultTypes[j]? = some t → (v.resultList f.resultTypes.size)[j]? = some r → Value.okWide P W' .any 0 t r) :
    s.post enc P f apart fresh handsOn again W args v W' := by
  have hlt := hW.lt
  have hold : ∀ p ∈ before, (fun b => decide (b < W.heap.size)) p.block = true := fun p hp => by simpa using hlt p hp
  have hW0 := hW
  obtain ⟨p, q, hA, hV, e, hfz, hn⟩ := hW
  rw [hsv] at hV
  obtain ⟨hg, hq⟩ := trodVars_none hV
  subst hq
  rw [List.append_nil] at e
  subst e
  have ha : ∀ sp : Nat → Bool, (∀ p ∈ before, sp p.block = true) → DataW.TrodAll enc P W' 0 sp true f.params.toList args.toList (s.fn H (ds ++ gs)).args before := fun sp hsp => by
    rw [hargs]
    exact trodAll_carry (DataW.TrodAll.respare K hz hT hA hsp) (fun p hp => hx.same (hlt p hp))
  have hv : ∀ sp : Nat → Bool, DataW.TrodVars enc P W' sp s.vars (s.fn H (ds ++ gs)).vars [] := fun sp => by rw [hvars, hsv]; exact rfl
  refine ⟨ds, gs, before, [], before, [], hW0, hres _ _ _, ha _ hold, hv _, World.keptBut_mono (fun p hp => ⟨hp, Or.inr (Or.inl hp)⟩) (hx.frame (· ∈ before)), fun _ => ?_⟩
  refine ⟨hok, _, _, ([] ++ before) ++ [], ⟨[] ++ before, [], trodAll_append (ha _ (fun _ _ => rfl)) (hres _ _ _), hv _, rfl, ?_, ?_⟩, ?_⟩
  · intro b off hp
    simp at hp
    rw [Below.frozen hx (p := ⟨b, off, none⟩) (hlt _ hp)]
    exact hfz b off hp
  · intro h
    simpa using hn h
  · intro p hp _
    simpa using hp
end
end
end Go.Proofs.YtlodpljdhdhfmaaGreat
/- Arguments opened: arrays of two small integers. -/
namespace Go.Proofs.YtlodpljdhdhfmaaGreat
open Go.RowKit Go.ChangeShapes Go.WideShapes Go.ChangeAt
theorem Tryz.own : ownKnob Tryz.prog.godebug = none := by kernel_rfl
theorem Tryz.kids : Kids Tryz.prog (· < Tryz.prog.types.size) := kids_rows (by kernel_rfl) (by kernel_rfl)
theorem Tryz.full : ∀ t e, t < Tryz.prog.types.size → Tryz.prog.underlying t = some (.slice e) → 0 < Tryz.prog.cellsOf e := slices_full_of Tryz.prog (by kernel_rfl)
theorem val_inv {w : World} {N : Nat → Prop} {u v : Value} (h : RepC w N (.val u) v) : v = u := by cases h; rfl
theorem wf_u8 {n : Int} (h : (Lit.int .u8 n).wf = true) : 0 ≤ n ∧ n ≤ 255 := by
  simp only [Lit.wf, Bool.and_eq_true, decide_eq_true_eq] at h
  exact h
theorem wf_u16 {n : Int} (h : (Lit.int .u16 n).wf = true) : 0 ≤ n ∧ n ≤ 65535 := by
  simp only [Lit.wf, Bool.and_eq_true, decide_eq_true_eq] at h
  exact h
theorem ty8 {d : Nat} {cs : List CV} (h : tyC Tryz.prog d 5 cs) : ∃ n, cs = [.val (.int .u8 n)] ∧ 0 ≤ n ∧ n ≤ 255 := by
  obtain ⟨n, h, hw⟩ := tyC_int Tryz.underlying5 h; exact ⟨n, h, wf_u8 hw⟩
set_option maxRecDepth 100000 in
theorem open_agg {H : Type} {enc : TypeId × Value → H} {w : World} {spare : Nat → Bool} {held : Bool} {v : Value} {x : DataW H} {ps : List MemPlace} {t : TypeId} (hp : plainB Tryz.prog 8 t = true) (h : DataW.Trod enc Tryz.prog w 0 spare held t v x ps) : ∃ d cs, tyC Tryz.prog d t cs ∧ (1 < cs.length → RepC w (fun _ => False) (.agg cs) v) := by
  obtain ⟨n, h⟩ := h
  obtain ⟨cs, h1, h2⟩ := open_tyC hp h
  refine ⟨_, cs, h1, fun hl => ?_⟩
  have hs : v.cells.size = cs.length := by have := h2.1; simp at this; omega
  have hv := agg_cells (v := v) (by omega)
  rw [hv]
  exact .agg _ _ (by simpa using hs) (fun i x u hx hu => h2.2 i x u hx (by simpa using hu))
end Go.Proofs.YtlodpljdhdhfmaaGreat
/- Arguments opened: slices and integers. -/
namespace Go.Proofs.YtlodpljdhdhfmaaGreat
open Go.RowKit Go.ChangeShapes Go.WideShapes Go.ChangeAt
section
variable {H : Type} {enc : TypeId × Value → H} {P : Program} {w : World} {base b0 : Nat} {spare : Nat → Bool} {held : Bool} {v : Value} {x : DataW H} {ps : List MemPlace} {t : TypeId} {r : Reach}
end
end Go.Proofs.YtlodpljdhdhfmaaGreat
