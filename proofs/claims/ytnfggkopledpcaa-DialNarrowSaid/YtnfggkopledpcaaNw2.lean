/- It is proved that the statement named by the theorem at the end of this text holds, for every input, with no condition beyond the given ones. -/
import Derived.Test.YtnfggkopledpcaaNw1
import Derived.Test.YtnfggkopledpcaaK5
set_option linter.unusedSimpArgs false
set_option linter.unusedVariables false
/- Dial's plain laws, XIII: DialNarrow. -/
namespace Go.Proofs.Ytnfggkopledpcaa
open Go.RowKit Go.Sort
theorem narF_refl (f : Fc) : NarF f f := ⟨Int.le_refl _, Int.le_refl _, rfl, rfl, rfl⟩
def nv0 (w : Dw) : Dw := ⟨w.jump, w.elo + (w.ehi - w.elo) / 3, w.ehi, w.faces⟩
def fc1 (f : Fc) : Fc := ⟨f.lo, f.hi - (f.hi - f.lo) / 2, f.links, f.weight, f.friction⟩
def nv1 (w : Dw) (i : Nat) (f : Fc) : Dw := ⟨w.jump, w.elo, w.ehi, w.faces.set i (fc1 f)⟩
def fc3 (f : Fc) : Fc := ⟨f.lo, f.hi, f.links.tail, f.weight, f.friction⟩
def nv3 (w : Dw) (i : Nat) (f : Fc) : Dw := ⟨w.jump, w.elo, w.ehi, w.faces.set i (fc3 f)⟩
theorem nv0_ok {x : Tw} (hx : TwOk x) : NarW x (nv0 (twW x)) (x.w0 - 128) (x.w0 - 128 + x.w1 % 100) := by
  have h := tw_ok hx
  have hsm := dw_sm h
  have g1 := hsm.c
  have g2 := hsm.f
  have g3 := hsm.g
  have w1 := hx.w1
  have hwl : x.w0 - 128 ≤ x.w0 - 128 + x.w1 % 100 := by omega
  refine ⟨⟨rfl, by show (twW x).elo ≤ (twW x).elo + ((twW x).ehi - (twW x).elo) / 3; omega, Int.le_refl _, rfl, fun i => narF_refl _, Int.le_refl _, hwl, Int.le_refl _⟩, ?_, ⟨(tw_len hx).n, (tw_len hx).l⟩⟩
  unfold dwB at h ⊢
  simp only [nv0, Bool.and_eq_true] at h ⊢
  obtain ⟨⟨⟨⟨a, b⟩, c⟩, d⟩, e⟩ := h
  refine ⟨⟨⟨⟨a, b⟩, ?_⟩, d⟩, e⟩
  simp only [spanB, Bool.and_eq_true]
  repeat' apply And.intro
  all_goals first | exact decide_eq_true (by omega) | (simp only [inB, Bool.and_eq_true]; exact ⟨decide_eq_true (by omega), decide_eq_true (by omega)⟩)
theorem nv2_ok {x : Tw} (hx : TwOk x) : NarW x (twW x) (x.w0 - 128 + x.w1 % 100 / 3) (x.w0 - 128 + x.w1 % 100 - x.w1 % 100 / 4) := by
  have w1 := hx.w1
  exact ⟨⟨rfl, Int.le_refl _, Int.le_refl _, rfl, fun i => narF_refl _, by omega, by omega, by omega⟩, tw_ok hx, tw_len hx⟩
theorem set_dwB {w : Dw} (h : dwB w = true) {i : Nat} {g : Fc} (hg : fcOK g = true) : dwB ⟨w.jump, w.elo, w.ehi, w.faces.set i g⟩ = true := by
  have hall : (w.faces.set i g).all fcOK = true := by
    simp only [dwB, Bool.and_eq_true, List.all_eq_true] at h
    refine List.all_eq_true.2 fun f hm => ?_
    rcases List.mem_or_eq_of_mem_set hm with h' | h'
    · exact h.2 f h'
    · rw [h']; exact hg
  unfold dwB at h ⊢
  rw [hall]
  simp only [List.length_set, Bool.and_eq_true, Bool.and_true] at h ⊢
  exact h.1
theorem set_len {w : Dw} (h : DwLen w) {i : Nat} {g : Fc} (hg : g.links.length ≤ 1000000) : DwLen ⟨w.jump, w.elo, w.ehi, w.faces.set i g⟩ := by
  refine ⟨by have := h.n; simpa using this, fun f hm => ?_⟩
  rcases List.mem_or_eq_of_mem_set hm with h' | h'
  · exact h.l f h'
  · rw [h']; exact hg
theorem nv1_ok {x : Tw} (hx : TwOk x) {i : Nat} (hi : i < twN x) {f : Fc} (hf : f = faceV (x.faces.getD i .zero)) : NarW x (nv1 (twW x) i f) (x.w0 - 128) (x.w0 - 128 + x.w1 % 100) := by
  have hl : (twW x).faces.length = twN x := twF_len x _
  have w1 := hx.w1
  have hwl : x.w0 - 128 ≤ x.w0 - 128 + x.w1 % 100 := by omega
  have hff := (tw_f (x := x) hi 0).2 (by omega)
  rw [← hf] at hff
  have hlh := tw_lohi hx i
  rw [← hf] at hlh
  have hok := face_ok (tw_face hx i)
  rw [← hf] at hok
  have hok1 : fcOK (fc1 f) = true := by
    have hs := fc_sm hok
    have z1 := hs.a
    have z2 := hs.d
    simp only [fcOK, fcB, fc1, spanB, inB, Bool.and_eq_true, decide_eq_true_eq] at hok ⊢
    obtain ⟨⟨⟨⟨⟨⟨⟨a1, a2⟩, a3⟩, b⟩, ⟨c1, c2⟩⟩, ⟨d1, d2⟩⟩, e⟩, f⟩ := hok
    refine ⟨⟨⟨⟨⟨?_, ?_⟩, ?_⟩, ?_⟩, e⟩, ?_⟩
    all_goals (repeat' apply And.intro)
    all_goals first | exact decide_eq_true (by omega) | omega
  refine ⟨⟨rfl, Int.le_refl _, Int.le_refl _, by simp [nv1], fun k => ?_, Int.le_refl _, hwl, Int.le_refl _⟩, set_dwB (tw_ok hx) hok1, set_len (tw_len hx) (by show f.links.length ≤ _; rw [hf]; exact tw_links x i)⟩
  show NarF _ (((twW x).faces.set i (fc1 f)).getD k .zero)
  rw [List.getD_eq_getElem?_getD, List.getD_eq_getElem?_getD]
  by_cases hk : i = k
  · subst hk
    rw [List.getElem?_set_self (by omega), List.getElem?_eq_getElem (by omega), hff]
    exact ⟨Int.le_refl _, by show f.hi - (f.hi - f.lo) / 2 ≤ f.hi; omega, rfl, rfl, rfl⟩
  · rw [List.getElem?_set_ne hk]
    exact narF_refl _
theorem nv3_small {x : Tw} (hx : TwOk x) {i : Nat} (hi : i < twN x) {f : Fc} (hf : f = faceV (x.faces.getD i .zero)) :
    SC Try.prog 36 [cDw (twW x), cDw (nv3 (twW x) i f), I i, I x.t, cS (x.w0 - 128) (x.w0 - 128 + x.w1 % 100)] (B true) := by
  have hl : (twW x).faces.length = twN x := twF_len x _
  have w0 := hx.w0
  have w1 := hx.w1
  have t1 := hx.t
  have hff := (tw_f (x := x) hi 0).2 (by omega)
  rw [← hf] at hff
  have hok := face_ok (tw_face hx i)
  have hst := slack_tail (tw_face hx i)
  change slackI (faceV (x.faces.getD i .zero)).links.tail ≤ slackI (faceV (x.faces.getD i .zero)).links at hst
  rw [← hf] at hok hst
  have hok3 : fcOK (fc3 f) = true := by
    have htl : ∀ l ∈ f.links.tail, l ∈ f.links := fun l h => List.mem_of_mem_tail h
    simp only [fcOK, fcB, fc3, Bool.and_eq_true, List.all_eq_true] at hok ⊢
    obtain ⟨⟨⟨⟨⟨a, b⟩, c⟩, d⟩, e⟩, g⟩ := hok
    refine ⟨⟨⟨⟨⟨a, ?_⟩, c⟩, d⟩, fun l h => e l (htl l h)⟩, ?_⟩
    · have := of_decide_eq_true b
      exact decide_eq_true (by rw [List.length_tail]; omega)
    · have := of_decide_eq_true g
      exact decide_eq_true (by omega)
  have hlen3 : (fc3 f).links.length ≤ 1000000 := by
    have := tw_links x i
    rw [← hf] at this
    show f.links.tail.length ≤ _
    rw [List.length_tail]; omega
  have hvo := set_dwB (i := i) (tw_ok hx) hok3
  have hvl := set_len (i := i) (tw_len hx) hlen3
  have h1 := tw_look hx hi t1.1 (by omega)
  have h2 : lookErr (nv3 (twW x) i f) i x.t (x.w0 - 128) (x.w0 - 128 + x.w1 % 100) = 0 := by
    have hq : inB 0 (((nv3 (twW x) i f).faces.length : Int) - 1) i = true := by
      have : (nv3 (twW x) i f).faces.length = (twW x).faces.length := by simp [nv3]
      rw [this, hl]; simp [inB]; omega
    have hq2 : inB 0 3155760000 x.t = true := by simp [inB]; omega
    have hq3 : spanB (-10000) 10000 (x.w0 - 128) (x.w0 - 128 + x.w1 % 100) = true := by
      simp only [spanB, Bool.and_eq_true]
      exact ⟨⟨decide_eq_true (by omega), decide_eq_true (by omega)⟩, decide_eq_true (by omega)⟩
    have hvo' : dwB (nv3 (twW x) i f) = true := hvo
    simp [lookErr, hvo', hq, hq2, hq3]
  have hn2 : i < (nv3 (twW x) i f).faces.length := by simp [nv3]; omega
  have g2 : (nv3 (twW x) i f).faces[i]'hn2 = fc3 f := by simp [nv3]
  have e1 : (lookOf (twW x) i x.t (x.w0 - 128) (x.w0 - 128 + x.w1 % 100)).f = f := by
    have : i < (twW x).faces.length := by omega
    simp [lookOf, this, hff]
  have e2 : (lookOf (nv3 (twW x) i f) i x.t (x.w0 - 128) (x.w0 - 128 + x.w1 % 100)).f = fc3 f := by
    simp only [lookOf, Int.toNat_natCast, List.getD_eq_getElem?_getD]
    rw [List.getElem?_eq_getElem hn2, g2]; rfl
  have ho := less_off (look_sm h1) (look_sm h2) (by rw [e1, e2]; exact ⟨rfl, rfl, rfl, rfl, hst⟩) rfl rfl rfl rfl rfl rfl
  rw [e1, e2] at ho
  refine lSmaller (twW x) (nv3 (twW x) i f) (tw_len hx) hvl (tw_ok hx) hvo i (by omega) hn2 x.t _ _ h1 h2 ?_ ?_
  · rw [g2, hff]; exact hst
  · rw [g2, hff]; exact ho
set_option maxHeartbeats 4000000 in
set_option maxRecDepth 100000 in
theorem lNarrow (x : Tw) (hx : TwOk x) (n s0 s1 s2 s3 : Int) (n1 : 0 ≤ n) (n2 : n ≤ 255) (hs0 : 0 ≤ s0 ∧ s0 ≤ 65535) (hs1 : 0 ≤ s1 ∧ s1 ≤ 65535) (hs2 : 0 ≤ s2 ∧ s2 ≤ 65535) (hs3 : 0 ≤ s3 ∧ s3 ≤ 65535) :
    SC Try.prog 7 [cTw x, U8 n, .agg [U16 s0, U16 s1, U16 s2, U16 s3]] (B true) := by
  refine glaw_turretlaw04_DialNarrow _ _ (by simp) ?_
  obtain ⟨p1, p2⟩ := twN_bd x
  have hl : (twW x).faces.length = twN x := twF_len x _
  have hm : (n / 4).tmod (twN x) = n / 4 % twN x := Int.tmod_eq_emod_of_nonneg (by omega)
  have m1 := Int.emod_nonneg (n / 4) (show (twN x : Int) ≠ 0 by omega)
  have m2 := Int.emod_lt_of_pos (n / 4) (show (0 : Int) < twN x by omega)
  obtain ⟨i, hi⟩ : ∃ i : Nat, n / 4 % (twN x : Int) = i := ⟨(n / 4 % twN x).toNat, by omega⟩
  have hin : i < twN x := by omega
  have hd4 : n.tdiv 4 = n / 4 := Int.tdiv_eq_ediv_of_nonneg n1
  have hm4 : n.tmod 4 = n % 4 := Int.tmod_eq_emod_of_nonneg n1
  have w0 := hx.w0
  have w1 := hx.w1
  have c1 := lTower x hx
  have c2 := lAt x hx
  have c3 := lWind x hx
  have c4 := lWorksF (twW x) (tw_len hx)
  obtain ⟨f, hf⟩ : ∃ f, f = faceV (x.faces.getD i .zero) := ⟨_, rfl⟩
  have hff := (tw_f (x := x) hin 0).2 (by omega)
  rw [← hf] at hff
  have hself := rowsAt_self (fs := (twW x).faces) (i := i) (by omega)
  rw [hff] at hself
  have rest := lNarRest x hx s0 s1 s2 s3 hs0 hs1 hs2 hs3 i hin
  have k0 := rest _ _ _ (nv0_ok hx)
  have k1 := rest _ _ _ (nv1_ok hx hin hf)
  have k2 := rest _ _ _ (nv2_ok hx)
  have k3 := nv3_small hx hin hf
  have hin2 : i < (twW x).faces.length := by omega
  have hlen := rowsAt_len (twW x).faces i
  have hget := rowsAt_get (fs := (twW x).faces) (i := i) (by omega)
  have hget2 : ∀ g (h : i < (rowsAt (twW x).faces i g).length), (rowsAt (twW x).faces i g)[i]'h = rowF g := fun g h => by have := hget g; rw [List.getElem?_eq_getElem h] at this; exact Option.some.inj this
  have hset : ∀ g (a b : Int) (l : List Lk) (c d : Int), (rowsAt (twW x).faces i g).set i [I a, I b, .sl 3 (l.map rowL), I c, I d] = rowsAt (twW x).faces i ⟨a, b, l, c, d⟩ := rowsAt_set (twW x).faces i
  have hne : ¬ ((twW x).faces.length : Int) = 0 := by omega
  have hne2 : ¬ (twW x).faces = [] := fun e => by rw [e] at hin2; simp at hin2
  have hsm := dw_sm (tw_ok hx)
  have b1 := hsm.c
  have b2 := hsm.d
  have b3 := hsm.e
  have b4 := hsm.f
  have b5 := hsm.g
  have hfs := fc_sm (face_ok (tw_face hx i))
  rw [← hf] at hfs
  have f1 := hfs.a
  have f2 := hfs.b
  have f3 := hfs.c
  have f4 := hfs.d
  have hlh := tw_lohi hx i
  rw [← hf] at hlh
  have d1 : ((twW x).ehi - (twW x).elo).tdiv 3 = ((twW x).ehi - (twW x).elo) / 3 := Int.tdiv_eq_ediv_of_nonneg (by omega)
  have d2 : (f.hi - f.lo).tdiv 2 = (f.hi - f.lo) / 2 := Int.tdiv_eq_ediv_of_nonneg (by omega)
  have hww : x.w0 - 128 + x.w1 % 100 - (x.w0 - 128) = x.w1 % 100 := by omega
  have d3 : (x.w1 % 100).tdiv 3 = x.w1 % 100 / 3 := Int.tdiv_eq_ediv_of_nonneg (by omega)
  have d4 : (x.w1 % 100).tdiv 4 = x.w1 % 100 / 4 := Int.tdiv_eq_ediv_of_nonneg (by omega)
  have hl1 : 1 ≤ f.links.length := by rw [hf]; show 1 ≤ (linksV _).length; unfold linksV; simp
  have a1 := lSpan (x.w0 - 128 + x.w1 % 100 / 3) (x.w0 - 128 + x.w1 % 100 - x.w1 % 100 / 4)
  have a2 := sKnown
  rw [hself] at c4
  rw [← hl] at hm hi
  unfold cTw
  unfold cTw at c1 c2 c3
  have h4 : n % 4 = 0 ∨ n % 4 = 1 ∨ n % 4 = 2 ∨ n % 4 = 3 := by omega
  have htk : List.take (f.links.length - 1) (List.map rowL f.links).tail = (List.map rowL f.links).tail := List.take_of_length_le (by simp)
  have hset3 : (rowsAt (twW x).faces i f).set i [I f.lo, I f.hi, .sl 3 (List.map rowL f.links).tail, I f.weight, I f.friction] = rowsAt (twW x).faces i ⟨f.lo, f.hi, f.links.tail, f.weight, f.friction⟩ := by
    rw [← List.map_tail]; exact hset f f.lo f.hi f.links.tail f.weight f.friction
  have k3' : SC Try.prog 36 [.agg [I (twW x).jump, I (twW x).elo, I (twW x).ehi, .sl 5 ((twW x).faces.map rowF)], .agg [I (twW x).jump, I (twW x).elo, I (twW x).ehi, .sl 5 (rowsAt (twW x).faces i ⟨f.lo, f.hi, f.links.tail, f.weight, f.friction⟩)], I i, I x.t, cS (x.w0 - 128) (x.w0 - 128 + x.w1 % 100)] (B true) := k3
  rcases h4 with h4 | h4 | h4 | h4
  · rw [h4] at hm4
    (repeat' (first | ((with_reducible show STri _ g_turretlaw04_DialNarrow_116 _ _ _); refine st_shut1 38 rfl (by simp [dropOK, dropK]) (by simp [ClosO, ownS, dropK, SV.outD, hlen]) (by simp [ShutH, ShutB, ownL, ownS, dropK, SV.outD, outDL, Blk.outD, hlen]) ?_; refine st_less [(5, .ptr 5 0), (7, .ptr 7 0), (8, .c (I x.t)), (9, .ptr 9 0), (10, .ptr 10 0), (11, .ptr 11 0), (12, .c (I i))] [(5, .box 86 [.c (U16 s0), .c (U16 s1), .c (U16 s2), .c (U16 s3)]), (7, bxW (twW x)), (9, bxS (x.w0 - 128) (x.w0 - 128 + x.w1 % 100)), (10, .box 26 [.c (I (twW x).jump), .c (I ((twW x).elo + ((twW x).ehi - (twW x).elo) / 3)), .c (I (twW x).ehi), .c (.sl 5 (rowsAt (twW x).faces i f))]), (11, bxS (x.w0 - 128) (x.w0 - 128 + x.w1 % 100))] (by simp [dropOK, hlen]) ?_; rw [← hself]; exact k0) | ((first | with_reducible refine st_skip ?_ | with_reducible refine st_exit ?_); (try simp only [seqQ, blockQ, loopQ, forQ, whileQ, reduceIte, Nat.reduceEqDiff])) | (with_reducible refine st_ret ?_; ((try simp only [seqQ, blockQ, loopQ, forQ, whileQ]); first | (with_reducible refine retM_ret ?_) | refine retQ_ret ?_; simp [hm, hi, hd4, hin2, hne, hne2, n1, n2, hlen, hget, hget2, hset, hm4, d1])) | refine st_seq ?_ | refine st_block ?_ | ((first | refine st_reg ?_ | refine buildP_own ?_ | ((with_reducible show callGP _ _ _ _ _ _ _); refine callG_n (c4 ) ?hcc ?hpp ?hnn ?_; (case hcc => (first | rfl | (simp <;> fail) | (simp [ hlen] <;> fail))); (case hpp => (first | rfl | (simp <;> fail) | (simp [ hlen] <;> fail))); (case hnn => (first | rfl | (simp <;> fail) | (simp [ hlen] <;> fail)))) | ((with_reducible show callGP _ _ _ _ _ _ _); refine callG_b (c1) ?hcc ?hpp ?_; (case hcc => (first | rfl | (simp <;> fail))); (case hpp => (first | rfl | (simp <;> fail)))) | ((with_reducible show callGP _ _ _ _ _ _ _); refine callG_b (c2) ?hcc ?hpp ?_; (case hcc => (first | rfl | (simp <;> fail))); (case hpp => (first | rfl | (simp <;> fail)))) | ((with_reducible show callGP _ _ _ _ _ _ _); refine callG_b (c3) ?hcc ?hpp ?_; (case hcc => (first | rfl | (simp <;> fail))); (case hpp => (first | rfl | (simp <;> fail)))) | refine callP_b (c1) rfl ?_ | refine callP_b (c2) rfl ?_ | refine callP_b (c3) rfl ?_) <;> (simp -dsimp [hm, hi, hd4, hin2, hne, hne2, n1, n2, hlen, hget, hget2, hset, hm4, d1]; (repeat (simp -dsimp (disch := (first | omega | assumption | (refine Bool.eq_false_iff.1 ?_; assumption))) only [wrap_in, if_pos, if_neg]; (try simp -dsimp [hm, hi, hd4, hin2, hne, hne2, n1, n2, hlen, hget, hget2, hset, hm4, d1]))))) | ((first | refine guardP_of (fun hc => ?_) (fun hc => ?_) | refine st_cond rfl (fun hc => ?_) (fun hc => ?_)) <;> (try simp only [decide_eq_true_eq, decide_eq_false_iff_not, Bool.true_eq_false, Bool.false_eq_true, bne_iff_ne, ne_eq, bne_eq_false_iff_eq, beq_iff_eq, beq_eq_false_iff_ne, Bool.not_eq_true, Bool.not_eq_false, Bool.not_eq_eq_eq_not, Bool.not_true, Bool.not_false, Decidable.not_not] at hc) <;> (try (exfalso; first | omega | exact bool_tf hc (by assumption) | exact bool_ft hc (by assumption) | exact absurd (by assumption) hc)) <;> (first | with_reducible show STri _ _ _ _ _ _ | (simp -dsimp [hm, hi, hd4, hin2, hne, hne2, n1, n2, hlen, hget, hget2, hset, hm4, d1, hc]; (repeat (simp -dsimp (disch := (first | omega | assumption | (refine Bool.eq_false_iff.1 ?_; assumption))) only [wrap_in, if_pos, if_neg]; (try simp -dsimp [hm, hi, hd4, hin2, hne, hne2, n1, n2, hlen, hget, hget2, hset, hm4, d1, hc]))))))))
  · rw [h4] at hm4
    (repeat' (first | ((with_reducible show STri _ g_turretlaw04_DialNarrow_116 _ _ _); refine st_shut1 38 rfl (by simp [dropOK, dropK]) (by simp [ClosO, ownS, dropK, SV.outD, hlen]) (by simp [ShutH, ShutB, ownL, ownS, dropK, SV.outD, outDL, Blk.outD, hlen]) ?_; refine st_less [(5, .ptr 5 0), (7, .ptr 7 0), (8, .c (I x.t)), (9, .ptr 9 0), (10, .ptr 10 0), (11, .ptr 11 0), (12, .c (I i))] [(5, .box 86 [.c (U16 s0), .c (U16 s1), .c (U16 s2), .c (U16 s3)]), (7, bxW (twW x)), (9, bxS (x.w0 - 128) (x.w0 - 128 + x.w1 % 100)), (10, .box 26 [.c (I (twW x).jump), .c (I (twW x).elo), .c (I (twW x).ehi), .c (.sl 5 (rowsAt (twW x).faces i ⟨f.lo, f.hi - (f.hi - f.lo) / 2, f.links, f.weight, f.friction⟩))]), (11, bxS (x.w0 - 128) (x.w0 - 128 + x.w1 % 100))] (by simp [dropOK, hlen]) ?_; exact k1) | ((first | with_reducible refine st_skip ?_ | with_reducible refine st_exit ?_); (try simp only [seqQ, blockQ, loopQ, forQ, whileQ, reduceIte, Nat.reduceEqDiff])) | (with_reducible refine st_ret ?_; ((try simp only [seqQ, blockQ, loopQ, forQ, whileQ]); first | (with_reducible refine retM_ret ?_) | refine retQ_ret ?_; simp [hm, hi, hd4, hin2, hne, hne2, n1, n2, hlen, hget, hget2, hset, hm4, d2])) | refine st_seq ?_ | refine st_block ?_ | ((first | refine st_reg ?_ | refine buildP_own ?_ | ((with_reducible show callGP _ _ _ _ _ _ _); refine callG_n (c4 ) ?hcc ?hpp ?hnn ?_; (case hcc => (first | rfl | (simp <;> fail) | (simp [ hlen] <;> fail))); (case hpp => (first | rfl | (simp <;> fail) | (simp [ hlen] <;> fail))); (case hnn => (first | rfl | (simp <;> fail) | (simp [ hlen] <;> fail)))) | ((with_reducible show callGP _ _ _ _ _ _ _); refine callG_b (c1) ?hcc ?hpp ?_; (case hcc => (first | rfl | (simp <;> fail))); (case hpp => (first | rfl | (simp <;> fail)))) | ((with_reducible show callGP _ _ _ _ _ _ _); refine callG_b (c2) ?hcc ?hpp ?_; (case hcc => (first | rfl | (simp <;> fail))); (case hpp => (first | rfl | (simp <;> fail)))) | ((with_reducible show callGP _ _ _ _ _ _ _); refine callG_b (c3) ?hcc ?hpp ?_; (case hcc => (first | rfl | (simp <;> fail))); (case hpp => (first | rfl | (simp <;> fail)))) | refine callP_b (c1) rfl ?_ | refine callP_b (c2) rfl ?_ | refine callP_b (c3) rfl ?_) <;> (simp -dsimp [hm, hi, hd4, hin2, hne, hne2, n1, n2, hlen, hget, hget2, hset, hm4, d2]; (repeat (simp -dsimp (disch := (first | omega | assumption | (refine Bool.eq_false_iff.1 ?_; assumption))) only [wrap_in, if_pos, if_neg]; (try simp -dsimp [hm, hi, hd4, hin2, hne, hne2, n1, n2, hlen, hget, hget2, hset, hm4, d2]))))) | ((first | refine guardP_of (fun hc => ?_) (fun hc => ?_) | refine st_cond rfl (fun hc => ?_) (fun hc => ?_)) <;> (try simp only [decide_eq_true_eq, decide_eq_false_iff_not, Bool.true_eq_false, Bool.false_eq_true, bne_iff_ne, ne_eq, bne_eq_false_iff_eq, beq_iff_eq, beq_eq_false_iff_ne, Bool.not_eq_true, Bool.not_eq_false, Bool.not_eq_eq_eq_not, Bool.not_true, Bool.not_false, Decidable.not_not] at hc) <;> (try (exfalso; first | omega | exact bool_tf hc (by assumption) | exact bool_ft hc (by assumption) | exact absurd (by assumption) hc)) <;> (first | with_reducible show STri _ _ _ _ _ _ | (simp -dsimp [hm, hi, hd4, hin2, hne, hne2, n1, n2, hlen, hget, hget2, hset, hm4, d2, hc]; (repeat (simp -dsimp (disch := (first | omega | assumption | (refine Bool.eq_false_iff.1 ?_; assumption))) only [wrap_in, if_pos, if_neg]; (try simp -dsimp [hm, hi, hd4, hin2, hne, hne2, n1, n2, hlen, hget, hget2, hset, hm4, d2, hc]))))))))
  · rw [h4] at hm4
    (repeat' (first | ((with_reducible show STri _ g_turretlaw04_DialNarrow_116 _ _ _); refine st_shut1 38 rfl (by simp [dropOK, dropK]) (by simp [ClosO, ownS, dropK, SV.outD, hlen]) (by simp [ShutH, ShutB, ownL, ownS, dropK, SV.outD, outDL, Blk.outD, hlen]) ?_; refine st_less [(5, .ptr 5 0), (7, .ptr 7 0), (8, .c (I x.t)), (9, .ptr 9 0), (10, .ptr 10 0), (11, .ptr 11 0), (12, .c (I i))] [(5, .box 86 [.c (U16 s0), .c (U16 s1), .c (U16 s2), .c (U16 s3)]), (7, bxW (twW x)), (9, bxS (x.w0 - 128) (x.w0 - 128 + x.w1 % 100)), (10, .box 26 [.c (I (twW x).jump), .c (I (twW x).elo), .c (I (twW x).ehi), .c (.sl 5 (rowsAt (twW x).faces i f))]), (11, bxS (x.w0 - 128 + x.w1 % 100 / 3) (x.w0 - 128 + x.w1 % 100 - x.w1 % 100 / 4))] (by simp [dropOK, hlen]) ?_; rw [← hself]; exact k2) | ((first | with_reducible refine st_skip ?_ | with_reducible refine st_exit ?_); (try simp only [seqQ, blockQ, loopQ, forQ, whileQ, reduceIte, Nat.reduceEqDiff])) | (with_reducible refine st_ret ?_; ((try simp only [seqQ, blockQ, loopQ, forQ, whileQ]); first | (with_reducible refine retM_ret ?_) | refine retQ_ret ?_; simp [hm, hi, hd4, hin2, hne, hne2, n1, n2, hlen, hget, hget2, hset, hm4, hww, d3, d4])) | refine st_seq ?_ | refine st_block ?_ | ((first | refine st_reg ?_ | refine buildP_own ?_ | ((with_reducible show callGP _ _ _ _ _ _ _); refine callG_n (c4 ) ?hcc ?hpp ?hnn ?_; (case hcc => (first | rfl | (simp <;> fail) | (simp [ hlen] <;> fail))); (case hpp => (first | rfl | (simp <;> fail) | (simp [ hlen] <;> fail))); (case hnn => (first | rfl | (simp <;> fail) | (simp [ hlen] <;> fail)))) | ((with_reducible show callGP _ _ _ _ _ _ _); refine callG_b (c1) ?hcc ?hpp ?_; (case hcc => (first | rfl | (simp <;> fail))); (case hpp => (first | rfl | (simp <;> fail)))) | ((with_reducible show callGP _ _ _ _ _ _ _); refine callG_b (c2) ?hcc ?hpp ?_; (case hcc => (first | rfl | (simp <;> fail))); (case hpp => (first | rfl | (simp <;> fail)))) | ((with_reducible show callGP _ _ _ _ _ _ _); refine callG_b (c3) ?hcc ?hpp ?_; (case hcc => (first | rfl | (simp <;> fail))); (case hpp => (first | rfl | (simp <;> fail)))) | ((with_reducible show callGP _ _ _ _ _ _ _); refine callG_b (a1) ?hcc ?hpp ?_; (case hcc => (first | rfl | (simp <;> fail))); (case hpp => (first | rfl | (simp <;> fail)))) | refine callP_b (c1) rfl ?_ | refine callP_b (c2) rfl ?_ | refine callP_b (c3) rfl ?_ | refine callP_b (a1) rfl ?_) <;> (simp -dsimp [hm, hi, hd4, hin2, hne, hne2, n1, n2, hlen, hget, hget2, hset, hm4, hww, d3, d4]; (repeat (simp -dsimp (disch := (first | omega | assumption | (refine Bool.eq_false_iff.1 ?_; assumption))) only [wrap_in, if_pos, if_neg]; (try simp -dsimp [hm, hi, hd4, hin2, hne, hne2, n1, n2, hlen, hget, hget2, hset, hm4, hww, d3, d4]))))) | ((first | refine guardP_of (fun hc => ?_) (fun hc => ?_) | refine st_cond rfl (fun hc => ?_) (fun hc => ?_)) <;> (try simp only [decide_eq_true_eq, decide_eq_false_iff_not, Bool.true_eq_false, Bool.false_eq_true, bne_iff_ne, ne_eq, bne_eq_false_iff_eq, beq_iff_eq, beq_eq_false_iff_ne, Bool.not_eq_true, Bool.not_eq_false, Bool.not_eq_eq_eq_not, Bool.not_true, Bool.not_false, Decidable.not_not] at hc) <;> (try (exfalso; first | omega | exact bool_tf hc (by assumption) | exact bool_ft hc (by assumption) | exact absurd (by assumption) hc)) <;> (first | with_reducible show STri _ _ _ _ _ _ | (simp -dsimp [hm, hi, hd4, hin2, hne, hne2, n1, n2, hlen, hget, hget2, hset, hm4, hww, d3, d4, hc]; (repeat (simp -dsimp (disch := (first | omega | assumption | (refine Bool.eq_false_iff.1 ?_; assumption))) only [wrap_in, if_pos, if_neg]; (try simp -dsimp [hm, hi, hd4, hin2, hne, hne2, n1, n2, hlen, hget, hget2, hset, hm4, hww, d3, d4, hc]))))))))
  · rw [h4] at hm4
    (repeat' (first | ((first | with_reducible refine st_skip ?_ | with_reducible refine st_exit ?_); (try simp only [seqQ, blockQ, loopQ, forQ, whileQ, reduceIte, Nat.reduceEqDiff])) | (with_reducible refine st_ret ?_; ((try simp only [seqQ, blockQ, loopQ, forQ, whileQ]); first | (with_reducible refine retM_ret ?_) | refine retQ_ret ?_; simp [hm, hi, hd4, hin2, hne, hne2, n1, n2, hlen, hget, hget2, hset, hm4, hl1, htk, hset3])) | refine st_seq ?_ | refine st_block ?_ | ((first | refine st_reg ?_ | refine buildP_own ?_ | ((with_reducible show callGP _ _ _ _ _ _ _); refine callG_n (c4 ) ?hcc ?hpp ?hnn ?_; (case hcc => (first | rfl | (simp <;> fail) | (simp [ hlen] <;> fail))); (case hpp => (first | rfl | (simp <;> fail) | (simp [ hlen] <;> fail))); (case hnn => (first | rfl | (simp <;> fail) | (simp [ hlen] <;> fail)))) | ((with_reducible show callGP _ _ _ _ _ _ _); refine callG_b (c1) ?hcc ?hpp ?_; (case hcc => (first | rfl | (simp <;> fail))); (case hpp => (first | rfl | (simp <;> fail)))) | ((with_reducible show callGP _ _ _ _ _ _ _); refine callG_b (c2) ?hcc ?hpp ?_; (case hcc => (first | rfl | (simp <;> fail))); (case hpp => (first | rfl | (simp <;> fail)))) | ((with_reducible show callGP _ _ _ _ _ _ _); refine callG_b (c3) ?hcc ?hpp ?_; (case hcc => (first | rfl | (simp <;> fail))); (case hpp => (first | rfl | (simp <;> fail)))) | ((with_reducible show callGP _ _ _ _ _ _ _); refine callG_b (k3') ?hcc ?hpp ?_; (case hcc => (first | rfl | (simp <;> fail))); (case hpp => (first | rfl | (simp <;> fail)))) | ((with_reducible show callGP _ _ _ _ _ _ _); refine callG_b (a2) ?hcc ?hpp ?_; (case hcc => (first | rfl | (simp <;> fail))); (case hpp => (first | rfl | (simp <;> fail)))) | refine callP_b (c1) rfl ?_ | refine callP_b (c2) rfl ?_ | refine callP_b (c3) rfl ?_ | refine callP_b (k3') rfl ?_ | refine callP_b (a2) rfl ?_) <;> (simp -dsimp [hm, hi, hd4, hin2, hne, hne2, n1, n2, hlen, hget, hget2, hset, hm4, hl1, htk, hset3]; (repeat (simp -dsimp (disch := (first | omega | assumption | (refine Bool.eq_false_iff.1 ?_; assumption))) only [wrap_in, if_pos, if_neg]; (try simp -dsimp [hm, hi, hd4, hin2, hne, hne2, n1, n2, hlen, hget, hget2, hset, hm4, hl1, htk, hset3]))))) | ((first | refine guardP_of (fun hc => ?_) (fun hc => ?_) | refine st_cond rfl (fun hc => ?_) (fun hc => ?_)) <;> (try simp only [decide_eq_true_eq, decide_eq_false_iff_not, Bool.true_eq_false, Bool.false_eq_true, bne_iff_ne, ne_eq, bne_eq_false_iff_eq, beq_iff_eq, beq_eq_false_iff_ne, Bool.not_eq_true, Bool.not_eq_false, Bool.not_eq_eq_eq_not, Bool.not_true, Bool.not_false, Decidable.not_not] at hc) <;> (try (exfalso; first | omega | exact bool_tf hc (by assumption) | exact bool_ft hc (by assumption) | exact absurd (by assumption) hc)) <;> (first | with_reducible show STri _ _ _ _ _ _ | (simp -dsimp [hm, hi, hd4, hin2, hne, hne2, n1, n2, hlen, hget, hget2, hset, hm4, hl1, htk, hset3, hc]; (repeat (simp -dsimp (disch := (first | omega | assumption | (refine Bool.eq_false_iff.1 ?_; assumption))) only [wrap_in, if_pos, if_neg]; (try simp -dsimp [hm, hi, hd4, hin2, hne, hne2, n1, n2, hlen, hget, hget2, hset, hm4, hl1, htk, hset3, hc]))))))))
    all_goals exact .refl _
end Go.Proofs.Ytnfggkopledpcaa
/- Dial's towers opened. -/
namespace Go.Proofs.Ytnfggkopledpcaa
open Go.RowKit Go.ChangeShapes Go.WideShapes Go.ChangeAt
theorem Try.plainT : plainB Try.prog 8 57 = true := by kernel_rfl
theorem Try.cells6 : Try.prog.cellsOf 122 = 6 := by kernel_rfl
theorem Try.cells1 : Try.prog.cellsOf 5 = 1 := by kernel_rfl
theorem wf8 {n : Int} (h : (Lit.int .u8 n).wf = true) : 0 ≤ n ∧ n ≤ 255 := by
  simp only [Lit.wf, Bool.and_eq_true, decide_eq_true_eq] at h
  exact h
theorem wf16 {n : Int} (h : (Lit.int .u16 n).wf = true) : 0 ≤ n ∧ n ≤ 65535 := by
  simp only [Lit.wf, Bool.and_eq_true, decide_eq_true_eq] at h
  exact h
theorem ty_u8 {d : Nat} {cs : List CV} (h : tyC Try.prog d 5 cs) : ∃ n, cs = [U8 n] ∧ 0 ≤ n ∧ n ≤ 255 := by
  obtain ⟨n, h, hw⟩ := tyC_int Try.underlying5 h; exact ⟨n, h, wf8 hw⟩
theorem ty_two {d : Nat} {cs : List CV} (h : tyC Try.prog d 52 cs) : ∃ a b, cs = [U8 a, U8 b] ∧ (0 ≤ a ∧ a ≤ 255) ∧ 0 ≤ b ∧ b ≤ 255 := by
  obtain ⟨d, c1, r1, rfl, t1, c2, r2, rfl, t2, t4⟩ := tyC_array Try.underlying52 h
  obtain ⟨a, rfl, ha⟩ := ty_u8 t1
  obtain ⟨b, rfl, hb⟩ := ty_u8 t2
  have t4 : r2 = [] := t4
  subst t4
  exact ⟨a, b, rfl, ha, hb⟩
theorem ty_six {d : Nat} {cs : List CV} (h : tyC Try.prog d 122 cs) : ∃ v, cs = rowV v ∧ FvOk v := by
  obtain ⟨d, c1, r1, rfl, t1, c2, r2, rfl, t2, c3, r3, rfl, t3, c4, r4, rfl, t4, c5, r5, rfl, t5, c6, r6, rfl, t6, t7⟩ := tyC_array Try.underlying122 h
  obtain ⟨n1, rfl, h1⟩ := ty_u8 t1
  obtain ⟨n2, rfl, h2⟩ := ty_u8 t2
  obtain ⟨n3, rfl, h3⟩ := ty_u8 t3
  obtain ⟨n4, rfl, h4⟩ := ty_u8 t4
  obtain ⟨n5, rfl, h5⟩ := ty_u8 t5
  obtain ⟨n6, rfl, h6⟩ := ty_u8 t6
  have t7 : r6 = [] := t7
  subst t7
  exact ⟨⟨n1, n2, n3, n4, n5, n6⟩, rfl, h1, h2, h3, h4, h5, h6⟩
theorem ty_vs {d : Nat} {cs : List CV} (h : tyC Try.prog d 53 cs) : ∃ xs : List Fv, cs = [.sl 6 (xs.map rowV)] ∧ xs.length ≤ 9223372036854775807 ∧ ∀ v ∈ xs, FvOk v := by
  obtain ⟨d', rows, h, hl, h2⟩ := tyC_slice Try.underlying53 h
  rw [Try.cells6] at h
  obtain ⟨xs, rfl⟩ := rows_map (f := fun v : {v : Fv // FvOk v} => rowV v.1) (fun row hr => by obtain ⟨v, h1, h2⟩ := ty_six (h2 row hr); exact ⟨⟨v, h2⟩, h1⟩)
  refine ⟨xs.map (·.1), by rw [h]; simp, by simpa [maxLen] using hl, fun v hv => ?_⟩
  obtain ⟨x, _, rfl⟩ := List.mem_map.1 hv
  exact x.2
theorem ty_bytes {d : Nat} {cs : List CV} (h : tyC Try.prog d 55 cs) : ∃ xs : List Int, cs = [.sl 1 (xs.map rowB)] ∧ xs.length ≤ 9223372036854775807 ∧ ∀ n ∈ xs, 0 ≤ n ∧ n ≤ 255 := by
  obtain ⟨d', rows, h, hl, h2⟩ := tyC_slice Try.underlying55 h
  rw [Try.cells1] at h
  obtain ⟨xs, rfl⟩ := rows_map (f := fun v : {n : Int // 0 ≤ n ∧ n ≤ 255} => rowB v.1) (fun row hr => by obtain ⟨v, h1, h2⟩ := ty_u8 (h2 row hr); exact ⟨⟨v, h2⟩, h1⟩)
  refine ⟨xs.map (·.1), by rw [h]; simp, by simpa [maxLen] using hl, fun v hv => ?_⟩
  obtain ⟨x, _, rfl⟩ := List.mem_map.1 hv
  exact x.2
theorem ty_tower {d : Nat} {cs : List CV} (h : tyC Try.prog d 57 cs) : ∃ x : Tw, cs = [U8 x.j, U8 x.f, U8 x.e0, U8 x.e1, .sl 6 (x.faces.map rowV), U16 x.t, U8 x.w0, U8 x.w1, .sl 1 (x.truth.map rowB)] ∧ TwOk x := by
  obtain ⟨d', c1, r1, rfl, h1, c2, r2, rfl, h2, c3, r3, rfl, h3, c4, r4, rfl, h4, c5, r5, rfl, h5, c6, r6, rfl, h6, c7, r7, rfl, h7, h8⟩ := tyC_struct Try.underlying57 h
  obtain ⟨j, rfl, hj⟩ := ty_u8 h1
  obtain ⟨f, rfl, hf⟩ := ty_u8 h2
  obtain ⟨e0, e1, rfl, he0, he1⟩ := ty_two h3
  obtain ⟨vs, rfl, hv1, hv2⟩ := ty_vs h4
  obtain ⟨t, rfl, ht⟩ := tyC_int Try.underlying54 h5
  obtain ⟨w0, w1, rfl, hw0, hw1⟩ := ty_two h6
  obtain ⟨bs, rfl, hb1, hb2⟩ := ty_bytes h7
  have h8 : r7 = [] := h8
  subst h8
  exact ⟨⟨j, f, e0, e1, vs, t, w0, w1, bs⟩, rfl, hj, he0, he1, hv2, hv1, wf16 ht, hw0, hw1, hb2, hb1⟩
set_option maxRecDepth 100000 in
theorem open_tower {H : Type} {enc : TypeId × Value → H} {w : World} {spare : Nat → Bool} {held : Bool} {v : Value} {x : DataW H} {ps : List MemPlace} (h : DataW.Trod enc Try.prog w 0 spare held 57 v x ps) : ∃ c : Tw, RepC w (fun _ => False) (cTw c) v ∧ TwOk c := by
  obtain ⟨n, h⟩ := h
  obtain ⟨cs, h1, h2⟩ := open_tyC Try.plainT h
  obtain ⟨c, rfl, hm⟩ := ty_tower h1
  have hs : v.cells.size = 9 := by have := h2.1; simp at this; omega
  have hv := agg_cells (v := v) (by omega)
  refine ⟨c, ?_, hm⟩
  rw [hv]
  exact .agg _ _ (by simpa using hs) (fun i x u hx hu => h2.2 i x u hx (by simpa using hu))
end Go.Proofs.Ytnfggkopledpcaa
/- The last step: DialNarrow. -/
namespace Go.Proofs.Ytnfggkopledpcaa
open Go.RowKit Go.ChangeShapes Go.WideShapes Go.ChangeAt
theorem Try.plainH4 : plainB Try.prog 8 86 = true := by kernel_rfl
theorem ty_u16n {d : Nat} {cs : List CV} (h : tyC Try.prog d 54 cs) : ∃ n, cs = [U16 n] ∧ 0 ≤ n ∧ n ≤ 65535 := by
  obtain ⟨n, h, hw⟩ := tyC_int Try.underlying54 h; exact ⟨n, h, wf16 hw⟩
set_option maxRecDepth 100000 in
theorem open_four {H : Type} {enc : TypeId × Value → H} {w : World} {spare : Nat → Bool} {held : Bool} {v : Value} {x : DataW H} {ps : List MemPlace} (h : DataW.Trod enc Try.prog w 0 spare held 86 v x ps) : ∃ a b c e : Int, RepC w (fun _ => False) (.agg [U16 a, U16 b, U16 c, U16 e]) v ∧ (0 ≤ a ∧ a ≤ 65535) ∧ (0 ≤ b ∧ b ≤ 65535) ∧ (0 ≤ c ∧ c ≤ 65535) ∧ 0 ≤ e ∧ e ≤ 65535 := by
  obtain ⟨n, h⟩ := h
  obtain ⟨cs, h1, h2⟩ := open_tyC Try.plainH4 h
  obtain ⟨d, c1, r1, rfl, t1, c2, r2, rfl, t2, c3, r3, rfl, t3, c4, r4, rfl, t5, t4⟩ := tyC_array Try.underlying86 h1
  obtain ⟨a, rfl, ha⟩ := ty_u16n t1
  obtain ⟨b, rfl, hb⟩ := ty_u16n t2
  obtain ⟨c, rfl, hc⟩ := ty_u16n t3
  obtain ⟨e, rfl, he⟩ := ty_u16n t5
  have t4 : r4 = [] := t4
  subst t4
  have hs : v.cells.size = 4 := by have := h2.1; simp at this; omega
  have hv := agg_cells (v := v) (by omega)
  refine ⟨a, b, c, e, ?_, ha, hb, hc, he⟩
  rw [hv]
  exact .agg _ _ (by simpa using hs) (fun i x u hx hu => h2.2 i x u hx (by simpa using hu))
set_option maxRecDepth 100000 in
theorem narrow_lifted (os : Os) (started : os.Started) (H : Type) (enc : TypeId × Value → H) :
    ReturnsInHanded {} Try.checked os 7 .any (Rows.dialNarrowSpec.pre6 enc Try.prog Try.f7 Rows.dialNarrowRow.domain false) (Rows.dialNarrowSpec.post enc Try.prog Try.f7 false true false false) := by
  refine returnsInHanded_of_change (C := Try.checked) Try.own started (by kernel_rfl) Try.func7
    (ChangeSpec.witness6 (enc := enc) (C := Try.checked) false ⟨#[], #[.agg #[.int .u8 0, .int .u8 0, .int .u8 0, .int .u8 0, .slice none 0 0, .int .u16 0, .int .u8 0, .int .u8 0, .slice none 0 0], .int .u8 0, .agg #[.int .u16 0, .int .u16 0, .int .u16 0, .int .u16 0]], []⟩ 8 (by kernel_rfl) (by kernel_rfl) (by kernel_rfl) (by kernel_rfl)) ?_
  intro W base args ds gs before hval0 hW hcnd _
  have hW' := hW
  obtain ⟨p, q, hA0, hV, rfl, hfz, hnd⟩ := hW
  have hA : DataW.TrodAll enc Try.prog W 0 (fun _ => true) true Try.f7.params.toList args.toList ds p := hA0
  rw [Try.params7] at hA
  obtain ⟨v0, v1, v2, d0, d1, d2, q0, q1, q2, rfl, rfl, rfl, h0, h1, h2⟩ := trodAll_three hA
  obtain ⟨rfl, rfl⟩ := trodVars_none hV
  obtain ⟨c, hc, hcm⟩ := open_tower h0
  obtain ⟨n, rfl, rfl, rfl, hn⟩ := open_int Try.underlying5 (hval0 1 _ v1 rfl rfl) h1
  obtain ⟨n1, n2⟩ := wf8 hn
  obtain ⟨s0, s1, s2, s3, hs, m1, m2, m3, m4⟩ := open_four h2
  clear hA0 hval0
  refine (lNarrow c hcm n s0 s1 s2 s3 n1 n2 m1 m2 m3 m4 W (fun _ => False) #[v0, .int .u8 n, v2] (fun b hb => hb.elim) rfl (fun i x v hx' hv => ?_)).mono fun e W' ⟨v, he, hr, hx⟩ => ?_
  · match i with
    | 0 => cases hx'; cases hv; exact hc
    | 1 => cases hx'; cases hv; exact .val _
    | 2 => cases hx'; cases hv; exact hs
    | i + 3 => simp at hx'
  subst he
  have hv := val_inv hr
  subst hv
  exact ⟨_, rfl, post_ext Try.kids Try.full (by rw [Try.params7]; decide +kernel) rfl hW' (fun _ _ _ => trodAll_mk1 (shut_bool Try.underlying4 _)) rfl rfl hx (ok_one (by kernel_rfl) rfl (okWide_bool_mk Try.underlying4 _))⟩
theorem dialNarrow_holds : Rows.DialNarrowSaid :=
  OpenClaim.holds_of_wide 7 Try.f7 rfl rfl rfl rfl rfl rfl rfl ⟨rfl, rfl, rfl, rfl, rfl⟩ rfl rfl rfl rfl rfl (by kernel_rfl) Try.func7 (by kernel_rfl)
    (of_decide_eq_true (by kernel_rfl)) (by unfold Func.isWrapper; first | (rw [if_pos (by decide +kernel)]; kernel_rfl) | (rw [if_neg (by decide +kernel)]; exact ⟨rfl, rfl⟩))
    (fun os started H enc _ => narrow_lifted os started H enc)
#print axioms dialNarrow_holds
end Go.Proofs.Ytnfggkopledpcaa
