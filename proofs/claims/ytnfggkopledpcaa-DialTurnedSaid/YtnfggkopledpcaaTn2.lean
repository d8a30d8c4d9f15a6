/- It is proved that the statement named by the theorem at the end of this text holds, for every input, with no condition beyond the given ones. -/
import Derived.Test.YtnfggkopledpcaaTn1
import Derived.Test.YtnfggkopledpcaaJ5
set_option linter.unusedSimpArgs false
set_option linter.unusedVariables false
/- Dial's plain laws, IX: DialTurned. -/
namespace Go.Proofs.Ytnfggkopledpcaa
open Go.RowKit

def rdS (a s : Int) : Int := (a + s % 160 - 80) % 43200
def tuL (x : Tw) (s0 s1 : Int) : List (Int × Int) := [(0, rdS (x.t + 4000) s0), (1 % (twN x : Int), rdS (x.t + 4000) s1)]
def tuN (x : Tw) (s0 s1 : Int) : Nt := ⟨twW x, tuL x s0 s1, x.t + 4000 - 60, x.t + 4000 + 60, x.w0 - 128, x.w0 - 128 + x.w1 % 100⟩

theorem nt_of {n : Nt} (ok : NtOk n) : ntErr n = 0 := by
  have e1 : rdErr n.w.faces.length n.l = 0 := by
    refine rd_none fun y hy => ?_
    rw [List.take_length] at hy
    obtain ⟨⟨h1, h2⟩, h3, h4⟩ := ok.rd y hy
    have g1 : inB 0 ((n.w.faces.length : Int) - 1) y.1 = true := by simp [inB]; omega
    have g2 : inB 0 43199 y.2 = true := by simp [inB]; omega
    simp [rdE, g1, g2]
  have q1 := ok.n1
  have q2 := ok.n2
  have q3 := ok.n3
  have q4 := ok.n4
  have q5 := ok.w1
  have q6 := ok.w2
  have q7 := ok.w3
  have q8 := ok.len
  have e2 : spanB 0 3155760000 n.nlo n.nhi = true := by
    simp only [spanB, Bool.and_eq_true]
    exact ⟨⟨decide_eq_true (by omega), decide_eq_true (by omega)⟩, decide_eq_true (by omega)⟩
  have e3 : spanB (-10000) 10000 n.wlo n.whi = true := by
    simp only [spanB, Bool.and_eq_true]
    exact ⟨⟨decide_eq_true (by omega), decide_eq_true (by omega)⟩, decide_eq_true (by omega)⟩
  unfold ntErr
  simp only [ok.w, e1, e2, e3]
  rw [if_neg (by simp), if_neg (by omega), if_neg (by simp), if_neg (by simp; omega), if_neg (by simp)]

theorem tu_ok {x : Tw} (hx : TwOk x) (s0 s1 : Int) {b : Int} (b1 : 0 ≤ b) (b2 : b ≤ 3000000) : NtOk (shN b (tuN x s0 s1)) := by
  have hl : (twW x).faces.length = twN x := twF_len x _
  obtain ⟨p1, p2⟩ := twN_bd x
  have w0 := hx.w0
  have w1 := hx.w1
  have t1 := hx.t
  have m1 := Int.emod_nonneg 1 (show (twN x : Int) ≠ 0 by omega)
  have m2 := Int.emod_lt_of_pos 1 (show (0 : Int) < twN x by omega)
  refine ⟨tw_ok hx, by show 2 ≤ 20; decide, fun y hy => ?_, by show 0 ≤ x.t + 4000 - 60 + b; omega, by show x.t + 4000 - 60 + b ≤ x.t + 4000 + 60 + b; omega, by show x.t + 4000 + 60 + b ≤ 3155760000; omega, by show x.t + 4000 + 60 + b - (x.t + 4000 - 60 + b) ≤ 7200; omega, by show -10000 ≤ x.w0 - 128; omega, by show x.w0 - 128 ≤ x.w0 - 128 + x.w1 % 100; omega, by show x.w0 - 128 + x.w1 % 100 ≤ 10000; omega⟩
  show (0 ≤ y.1 ∧ y.1.toNat < (twW x).faces.length) ∧ _
  rw [hl]
  have hy : y ∈ tuL x s0 s1 := hy
  simp only [tuL, List.mem_cons, List.not_mem_nil, or_false] at hy
  rcases hy with rfl | rfl
  · simp only [rdS]; omega
  · simp only [rdS]; omega

theorem tw_jump {x : Tw} (q : Int) : (twW x).jump ∣ 43200 * q := by
  have : (twW x).jump ∣ 43200 := by
    show jmpI x.j ∣ 43200
    have : x.j % 6 = 0 ∨ x.j % 6 = 1 ∨ x.j % 6 = 2 ∨ x.j % 6 = 3 ∨ x.j % 6 = 4 ∨ x.j % 6 = 5 := by omega
    unfold jmpI
    rcases this with h | h | h | h | h | h <;> rw [h] <;> decide
  exact Int.dvd_mul_of_dvd_left this

set_option maxHeartbeats 4000000 in
set_option maxRecDepth 100000 in
theorem lTurned (x : Tw) (hx : TwOk x) (h s0 s1 : Int) (p1 : 0 ≤ h) (p2 : h ≤ 255) (p3 : 0 ≤ s0) (p4 : s0 ≤ 65535) (p5 : 0 ≤ s1) (p6 : s1 ≤ 65535) : SC Try.prog 8 [cTw x, U8 h, .agg [U16 s0, U16 s1]] (B true) := by
  refine law_turretlaw04_DialTurned _ _ (by simp) ?_
  obtain ⟨n1, n3⟩ := twN_bd x
  have hl : (twW x).faces.length = twN x := twF_len x _
  have t1 := hx.t
  have w0 := hx.w0
  have w1 := hx.w1
  have hw := tw_len hx
  have c1 := lTower x hx
  have c2 := lAt x hx
  have c3 := lWind x hx
  have c5 := lWorks (twW x) hw
  have a2 := sKnown
  have mh : h.tmod 50 = h % 50 := Int.tmod_eq_emod_of_nonneg p1
  have hj : (twW x).jump ∣ 43200 * (h % 50) := tw_jump _
  have hb3 : (43200 : Int) ∣ 43200 * (h % 50) := Int.dvd_mul_right _ _
  have hbb : 0 ≤ 43200 * (h % 50) ∧ 43200 * (h % 50) ≤ 2116800 := by omega
  generalize hb : 43200 * (h % 50) = b at *
  obtain ⟨bb1, bb2⟩ := hbb
  unfold cTw
  unfold cTw at c1 c2 c3
  generalize hW : twW x = W at *
  generalize hA : x.t + 4000 = A at *
  have A1 : 4000 ≤ A ∧ A ≤ 69535 := by omega
  (repeat' (first | ((first | with_reducible refine st_skip ?_ | with_reducible refine st_exit ?_); (try simp only [seqQ, blockQ, loopQ, forQ, whileQ, reduceIte, Nat.reduceEqDiff])) | (with_reducible refine st_ret ?_; ((try simp only [seqQ, blockQ, loopQ, forQ, whileQ]); first | (with_reducible refine retM_ret ?_) | refine retQ_ret ?_; simp [mh, hb, hA])) | refine st_seq ?_ | refine st_block ?_ | ((first | refine st_reg ?_ | refine buildP_own ?_ | refine callP_b (c1) rfl ?_ | refine callP_b (c2) rfl ?_ | refine callP_b (c3) rfl ?_) <;> (simp -dsimp [mh, hb, hA]; (repeat (simp -dsimp (disch := (first | omega | assumption | (refine Bool.eq_false_iff.1 ?_; assumption))) only [wrap_in, if_pos, if_neg]; (try simp -dsimp [mh, hb, hA]))))) | ((first | refine guardP_of (fun hc => ?_) (fun hc => ?_) | refine st_cond rfl (fun hc => ?_) (fun hc => ?_)) <;> (try simp only [decide_eq_true_eq, decide_eq_false_iff_not, Bool.true_eq_false, Bool.false_eq_true, bne_iff_ne, ne_eq, bne_eq_false_iff_eq, beq_iff_eq, beq_eq_false_iff_ne, Bool.not_eq_true, Bool.not_eq_false, Bool.not_eq_eq_eq_not, Bool.not_true, Bool.not_false, Decidable.not_not] at hc) <;> (try (exfalso; first | omega | exact bool_tf hc (by assumption) | exact bool_ft hc (by assumption) | exact absurd (by assumption) hc)) <;> (first | with_reducible show STri _ _ _ _ _ _ | (simp -dsimp [mh, hb, hA, hc]; (repeat (simp -dsimp (disch := (first | omega | assumption | (refine Bool.eq_false_iff.1 ?_; assumption))) only [wrap_in, if_pos, if_neg]; (try simp -dsimp [mh, hb, hA, hc]))))))))
  refine st_for [5, 7, 9] (twN x) (fun k T H => T = [(5, .ptr 5 0), (7, .ptr 7 0), (8, .c (I A)), (9, .ptr 9 0), (10, .c (I b)), (11, .c (I k))] ∧
    H = [(5, .box 89 [.c (U16 s0), .c (U16 s1)]), (7, .box 26 [.c (I W.jump), .c (I W.elo), .c (I W.ehi), .c (slF W.faces)]), (9, .box 23 [.c (I (x.w0 - 128)), .c (I (x.w0 - 128 + x.w1 % 100))])]) (by simp) ⟨by simp, by simp⟩ ?_
  rintro k T H hk ⟨rfl, rfl⟩
  by_cases hlt : k < twN x
  · have h1 := tw_look hx hlt (a := A) (by omega) (by omega)
    have h2 := tw_look hx hlt (a := A + b) (by omega) (by omega)
    have hk1 : lookOf (twW x) k A (x.w0 - 128) (x.w0 - 128 + x.w1 % 100) = twLo x k A := rfl
    have hk2 : lookOf (twW x) k (A + b) (x.w0 - 128) (x.w0 - 128 + x.w1 % 100) = shK b (twLo x k A) := rfl
    have ks1 := look_sm h1
    have ks2 := look_sm h2
    have c6 := sOff (twW x) (by rw [hW]; exact hw) k A (x.w0 - 128) (x.w0 - 128 + x.w1 % 100)
    have c7 := sOff (twW x) (by rw [hW]; exact hw) k (A + b) (x.w0 - 128) (x.w0 - 128 + x.w1 % 100)
    have c8 := sShows (twW x) (by rw [hW]; exact hw) k A (x.w0 - 128) (x.w0 - 128 + x.w1 % 100)
    have c9 := sShows (twW x) (by rw [hW]; exact hw) k (A + b) (x.w0 - 128) (x.w0 - 128 + x.w1 % 100)
    unfold rOff at c6 c7
    unfold rShows at c8 c9
    rw [if_pos h1, hk1] at c6 c8
    rw [if_pos h2, hk2] at c7 c9
    rw [hk1] at ks1
    rw [hk2] at ks2
    have hjk : (twLo x k A).w.jump ∣ b := by show (twW x).jump ∣ b; rw [hW]; exact hj
    have hb4 : (3600 : Int) ∣ b := Int.dvd_trans (by decide) hb3
    obtain ⟨o1, o2⟩ := off_sh ks1 ks2 hjk hb4
    rw [o1, o2] at c7
    rw [showL_sh _ hjk hb3] at c9
    have hfk : (twLo x k A).f.lo ≤ (twLo x k A).f.hi := by rw [(tw_f hlt A).1]; exact tw_lohi hx k
    obtain ⟨_, _, sl3⟩ := showL_fine ks1 hfk
    generalize offLo (twLo x k A) = q1 at *
    generalize offHi (twLo x k A) = q2 at *
    generalize showL (twLo x k A) = sl at *
    rw [hW] at c6 c7 c8 c9
    clear h1 h2 hk1 hk2 ks1 ks2 hjk hb4 o1 o2 hfk
    (repeat' (first | ((first | with_reducible refine st_skip ?_ | with_reducible refine st_exit ?_); (try simp only [seqQ, blockQ, loopQ, forQ, whileQ, reduceIte, Nat.reduceEqDiff])) | (with_reducible refine st_ret ?_; ((try simp only [seqQ, blockQ, loopQ, forQ, whileQ]); first | (with_reducible refine retM_ret ?_) | refine retQ_ret ?_; simp [hlt, hl])) | refine st_seq ?_ | refine st_block ?_ | ((first | refine st_reg ?_ | refine buildP_own ?_ | refine callP_b (c5) rfl ?_ | refine callP_b (c6) rfl ?_ | refine callP_b (c7) rfl ?_ | refine callP_b (c8) rfl ?_ | refine callP_b (c9) rfl ?_) <;> (simp -dsimp [hlt, hl]; (repeat (simp -dsimp (disch := (first | omega | assumption | (refine Bool.eq_false_iff.1 ?_; assumption))) only [wrap_in, if_pos, if_neg]; (try simp -dsimp [hlt, hl]))))) | ((first | refine guardP_of (fun hc => ?_) (fun hc => ?_) | refine st_cond rfl (fun hc => ?_) (fun hc => ?_)) <;> (try simp only [decide_eq_true_eq, decide_eq_false_iff_not, Bool.true_eq_false, Bool.false_eq_true, bne_iff_ne, ne_eq, bne_eq_false_iff_eq, beq_iff_eq, beq_eq_false_iff_ne, Bool.not_eq_true, Bool.not_eq_false, Bool.not_eq_eq_eq_not, Bool.not_true, Bool.not_false, Decidable.not_not] at hc) <;> (try (exfalso; first | omega | exact bool_tf hc (by assumption) | exact bool_ft hc (by assumption) | exact absurd (by assumption) hc)) <;> (first | with_reducible show STri _ _ _ _ _ _ | (simp -dsimp [hlt, hl, hc]; (repeat (simp -dsimp (disch := (first | omega | assumption | (refine Bool.eq_false_iff.1 ?_; assumption))) only [wrap_in, if_pos, if_neg]; (try simp -dsimp [hlt, hl, hc]))))))))
    refine st_for [5, 7, 9] sl.length (fun m T H => T = [(5, .ptr 5 0), (7, .ptr 7 0), (8, .c (I A)), (9, .ptr 9 0), (10, .c (I b)), (11, .c (I k)), (16, .c (slS sl)), (18, .c (slS sl)), (20, .c (I m))] ∧
      H = [(5, .box 89 [.c (U16 s0), .c (U16 s1)]), (7, .box 26 [.c (I W.jump), .c (I W.elo), .c (I W.ehi), .c (slF W.faces)]), (9, .box 23 [.c (I (x.w0 - 128)), .c (I (x.w0 - 128 + x.w1 % 100))])]) (by simp) ⟨by simp, by simp⟩ ?_
    rintro m T H hm ⟨rfl, rfl⟩
    by_cases hmt : m < sl.length
    · have hgr : ∀ h : m < (sl.map rowS).length, (sl.map rowS)[m]'h = rowS sl[m] := fun h => by simp
      (repeat' (first | ((first | with_reducible refine st_skip ?_ | with_reducible refine st_exit ?_); (try simp only [seqQ, blockQ, loopQ, forQ, whileQ, reduceIte, Nat.reduceEqDiff])) | (with_reducible refine st_ret ?_; ((try simp only [seqQ, blockQ, loopQ, forQ, whileQ]); first | (with_reducible refine retM_ret ?_) | refine retQ_ret ?_; simp [hmt, hgr])) | refine st_seq ?_ | refine st_block ?_ | ((first | refine st_reg ?_ | refine buildP_own ?_) <;> (simp -dsimp [hmt, hgr]; (repeat (simp -dsimp (disch := (first | omega | assumption | (refine Bool.eq_false_iff.1 ?_; assumption))) only [wrap_in, if_pos, if_neg]; (try simp -dsimp [hmt, hgr]))))) | ((first | refine guardP_of (fun hc => ?_) (fun hc => ?_) | refine st_cond rfl (fun hc => ?_) (fun hc => ?_)) <;> (try simp only [decide_eq_true_eq, decide_eq_false_iff_not, Bool.true_eq_false, Bool.false_eq_true, bne_iff_ne, ne_eq, bne_eq_false_iff_eq, beq_iff_eq, beq_eq_false_iff_ne, Bool.not_eq_true, Bool.not_eq_false, Bool.not_eq_eq_eq_not, Bool.not_true, Bool.not_false, Decidable.not_not] at hc) <;> (try (exfalso; first | omega | exact bool_tf hc (by assumption) | exact bool_ft hc (by assumption) | exact absurd (by assumption) hc)) <;> (first | with_reducible show STri _ _ _ _ _ _ | (simp -dsimp [hmt, hgr, hc]; (repeat (simp -dsimp (disch := (first | omega | assumption | (refine Bool.eq_false_iff.1 ?_; assumption))) only [wrap_in, if_pos, if_neg]; (try simp -dsimp [hmt, hgr, hc]))))))))
      all_goals exact ⟨hmt, by simp, by simp, by simp⟩
    · (repeat' (first | ((first | with_reducible refine st_skip ?_ | with_reducible refine st_exit ?_); (try simp only [seqQ, blockQ, loopQ, forQ, whileQ, reduceIte, Nat.reduceEqDiff])) | (with_reducible refine st_ret ?_; ((try simp only [seqQ, blockQ, loopQ, forQ, whileQ]); first | (with_reducible refine retM_ret ?_) | refine retQ_ret ?_; simp [hmt])) | refine st_seq ?_ | refine st_block ?_ | ((first | refine st_reg ?_ | refine buildP_own ?_) <;> (simp -dsimp [hmt]; (repeat (simp -dsimp (disch := (first | omega | assumption | (refine Bool.eq_false_iff.1 ?_; assumption))) only [wrap_in, if_pos, if_neg]; (try simp -dsimp [hmt]))))) | ((first | refine guardP_of (fun hc => ?_) (fun hc => ?_) | refine st_cond rfl (fun hc => ?_) (fun hc => ?_)) <;> (try simp only [decide_eq_true_eq, decide_eq_false_iff_not, Bool.true_eq_false, Bool.false_eq_true, bne_iff_ne, ne_eq, bne_eq_false_iff_eq, beq_iff_eq, beq_eq_false_iff_ne, Bool.not_eq_true, Bool.not_eq_false, Bool.not_eq_eq_eq_not, Bool.not_true, Bool.not_false, Decidable.not_not] at hc) <;> (try (exfalso; first | omega | exact bool_tf hc (by assumption) | exact bool_ft hc (by assumption) | exact absurd (by assumption) hc)) <;> (first | with_reducible show STri _ _ _ _ _ _ | (simp -dsimp [hmt, hc]; (repeat (simp -dsimp (disch := (first | omega | assumption | (refine Bool.eq_false_iff.1 ?_; assumption))) only [wrap_in, if_pos, if_neg]; (try simp -dsimp [hmt, hc]))))))))
      all_goals exact ⟨hlt, by simp, by simp, by simp⟩
  · have hke : k = twN x := by omega
    subst hke
    have hfin : ¬ twN x < twN x := by omega
    (repeat' (first | ((first | with_reducible refine st_skip ?_ | with_reducible refine st_exit ?_); (try simp only [seqQ, blockQ, loopQ, forQ, whileQ, reduceIte, Nat.reduceEqDiff])) | (with_reducible refine st_ret ?_; ((try simp only [seqQ, blockQ, loopQ, forQ, whileQ]); first | (with_reducible refine retM_ret ?_) | refine retQ_ret ?_; simp [hl, hfin])) | refine st_seq ?_ | refine st_block ?_ | ((first | refine st_reg ?_ | refine buildP_own ?_) <;> (simp -dsimp [hl, hfin]; (repeat (simp -dsimp (disch := (first | omega | assumption | (refine Bool.eq_false_iff.1 ?_; assumption))) only [wrap_in, if_pos, if_neg]; (try simp -dsimp [hl, hfin]))))) | ((first | refine guardP_of (fun hc => ?_) (fun hc => ?_) | refine st_cond rfl (fun hc => ?_) (fun hc => ?_)) <;> (try simp only [decide_eq_true_eq, decide_eq_false_iff_not, Bool.true_eq_false, Bool.false_eq_true, bne_iff_ne, ne_eq, bne_eq_false_iff_eq, beq_iff_eq, beq_eq_false_iff_ne, Bool.not_eq_true, Bool.not_eq_false, Bool.not_eq_eq_eq_not, Bool.not_true, Bool.not_false, Decidable.not_not] at hc) <;> (try (exfalso; first | omega | exact bool_tf hc (by assumption) | exact bool_ft hc (by assumption) | exact absurd (by assumption) hc)) <;> (first | with_reducible show STri _ _ _ _ _ _ | (simp -dsimp [hl, hfin, hc]; (repeat (simp -dsimp (disch := (first | omega | assumption | (refine Bool.eq_false_iff.1 ?_; assumption))) only [wrap_in, if_pos, if_neg]; (try simp -dsimp [hl, hfin, hc]))))))))
    have htu : tuL x s0 s1 = [(0, rdS A s0), (1 % (twN x : Int), rdS A s1)] := by unfold tuL; rw [hA]
    refine st_for [5, 7, 9, 127] 2 (fun m T H => T = [(5, .ptr 5 0), (7, .ptr 7 0), (8, .c (I A)), (9, .ptr 9 0), (10, .c (I b)), (21, .own 127 m), (22, .c (I m))] ∧
      H = [(5, .box 89 [.c (U16 s0), .c (U16 s1)]), (7, .box 26 [.c (I W.jump), .c (I W.elo), .c (I W.ehi), .c (slF W.faces)]), (9, .box 23 [.c (I (x.w0 - 128)), .c (I (x.w0 - 128 + x.w1 % 100))]), (127, .arr 70 2 (((tuL x s0 s1).take m).map rowS))]) (by simp) ⟨by simp, by simp⟩ ?_
    rintro m T H hm ⟨rfl, rfl⟩
    have u0 : s0.tmod 160 = s0 % 160 := Int.tmod_eq_emod_of_nonneg p3
    have u1 : s1.tmod 160 = s1 % 160 := Int.tmod_eq_emod_of_nonneg p5
    have r0 := lRest (A + s0 % 160 - 80) 43200 (by omega) (by omega) (by decide) (by decide)
    have r1 := lRest (A + s1 % 160 - 80) 43200 (by omega) (by omega) (by decide) (by decide)
    have hnz : ¬ (twN x : Int) = 0 := by omega
    have hne : ¬ twN x = 0 := by omega
    have m1 : (1 : Int).tmod (twN x) = 1 % (twN x : Int) := Int.tmod_eq_emod_of_nonneg (by decide)
    by_cases hm0 : m = 0
    · subst hm0
      (repeat' (first | ((first | with_reducible refine st_skip ?_ | with_reducible refine st_exit ?_); (try simp only [seqQ, blockQ, loopQ, forQ, whileQ, reduceIte, Nat.reduceEqDiff])) | (with_reducible refine st_ret ?_; ((try simp only [seqQ, blockQ, loopQ, forQ, whileQ]); first | (with_reducible refine retM_ret ?_) | refine retQ_ret ?_; simp [hl, u0, hnz, hne])) | refine st_seq ?_ | refine st_block ?_ | ((first | refine st_reg ?_ | refine buildP_own ?_ | refine callP_b (r0) rfl ?_) <;> (simp -dsimp [hl, u0, hnz, hne]; (repeat (simp -dsimp (disch := (first | omega | assumption | (refine Bool.eq_false_iff.1 ?_; assumption))) only [wrap_in, if_pos, if_neg]; (try simp -dsimp [hl, u0, hnz, hne]))))) | ((first | refine guardP_of (fun hc => ?_) (fun hc => ?_) | refine st_cond rfl (fun hc => ?_) (fun hc => ?_)) <;> (try simp only [decide_eq_true_eq, decide_eq_false_iff_not, Bool.true_eq_false, Bool.false_eq_true, bne_iff_ne, ne_eq, bne_eq_false_iff_eq, beq_iff_eq, beq_eq_false_iff_ne, Bool.not_eq_true, Bool.not_eq_false, Bool.not_eq_eq_eq_not, Bool.not_true, Bool.not_false, Decidable.not_not] at hc) <;> (try (exfalso; first | omega | exact bool_tf hc (by assumption) | exact bool_ft hc (by assumption) | exact absurd (by assumption) hc)) <;> (first | with_reducible show STri _ _ _ _ _ _ | (simp -dsimp [hl, u0, hnz, hne, hc]; (repeat (simp -dsimp (disch := (first | omega | assumption | (refine Bool.eq_false_iff.1 ?_; assumption))) only [wrap_in, if_pos, if_neg]; (try simp -dsimp [hl, u0, hnz, hne, hc]))))))))
      all_goals exact ⟨by omega, by simp, by simp, by rw [htu]; simp [rdS]⟩
    by_cases hm1 : m = 1
    · subst hm1
      (repeat' (first | ((first | with_reducible refine st_skip ?_ | with_reducible refine st_exit ?_); (try simp only [seqQ, blockQ, loopQ, forQ, whileQ, reduceIte, Nat.reduceEqDiff])) | (with_reducible refine st_ret ?_; ((try simp only [seqQ, blockQ, loopQ, forQ, whileQ]); first | (with_reducible refine retM_ret ?_) | refine retQ_ret ?_; simp [hl, u1, hnz, hne, m1, htu])) | refine st_seq ?_ | refine st_block ?_ | ((first | refine st_reg ?_ | refine buildP_own ?_ | refine callP_b (r1) rfl ?_) <;> (simp -dsimp [hl, u1, hnz, hne, m1, htu]; (repeat (simp -dsimp (disch := (first | omega | assumption | (refine Bool.eq_false_iff.1 ?_; assumption))) only [wrap_in, if_pos, if_neg]; (try simp -dsimp [hl, u1, hnz, hne, m1, htu]))))) | ((first | refine guardP_of (fun hc => ?_) (fun hc => ?_) | refine st_cond rfl (fun hc => ?_) (fun hc => ?_)) <;> (try simp only [decide_eq_true_eq, decide_eq_false_iff_not, Bool.true_eq_false, Bool.false_eq_true, bne_iff_ne, ne_eq, bne_eq_false_iff_eq, beq_iff_eq, beq_eq_false_iff_ne, Bool.not_eq_true, Bool.not_eq_false, Bool.not_eq_eq_eq_not, Bool.not_true, Bool.not_false, Decidable.not_not] at hc) <;> (try (exfalso; first | omega | exact bool_tf hc (by assumption) | exact bool_ft hc (by assumption) | exact absurd (by assumption) hc)) <;> (first | with_reducible show STri _ _ _ _ _ _ | (simp -dsimp [hl, u1, hnz, hne, m1, htu, hc]; (repeat (simp -dsimp (disch := (first | omega | assumption | (refine Bool.eq_false_iff.1 ?_; assumption))) only [wrap_in, if_pos, if_neg]; (try simp -dsimp [hl, u1, hnz, hne, m1, htu, hc]))))))))
      all_goals exact ⟨by omega, by simp, by simp, by simp [rdS]⟩
    · have hm2 : m = 2 := by omega
      subst hm2
      have ok1 := tu_ok hx s0 s1 (b := 0) (by omega) (by omega)
      have ok2 := tu_ok hx s0 s1 (b := b) bb1 (by omega)
      have e0 : shN 0 (tuN x s0 s1) = tuN x s0 s1 := by unfold shN tuN; simp
      rw [e0] at ok1
      have hjn : (tuN x s0 s1).w.jump ∣ b := by show (twW x).jump ∣ b; rw [hW]; exact hj
      have t1 := sTimes (tuN x s0 s1) (by show DwLen (twW x); rw [hW]; exact hw) (by show 2 ≤ 1000000; decide)
      have t2 := sTimes (shN b (tuN x s0 s1)) (by show DwLen (twW x); rw [hW]; exact hw) (by show 2 ≤ 1000000; decide)
      unfold rTimes at t1 t2
      rw [if_pos (nt_of ok1)] at t1
      rw [if_pos (nt_of ok2), timL_sh ok1 ok2 hjn hb3] at t2
      have hraw := timRaw_sh (tuN x s0 s1) hjn hb3
      have hrn : timRaw (shN b (tuN x s0 s1)) = [] ↔ timRaw (tuN x s0 s1) = [] := by rw [hraw]; simp
      obtain ⟨_, _, tl3, tl4⟩ := timL_fine ok1
      have tsm : ∀ y ∈ timL (tuN x s0 s1), (A - 60 ≤ y.1 ∧ y.1 ≤ A + 60) ∧ A - 60 ≤ y.2 ∧ y.2 ≤ A + 60 := fun y hy => by
        have h1 := tl3 y hy
        have h2 := (timL_fine ok1).1.2 y hy
        have h3 : x.t + 4000 - 60 ≤ y.1 := h1.1
        have h4 : y.2 ≤ x.t + 4000 + 60 := h1.2
        omega
      have hnil : timRaw (tuN x s0 s1) = [] → timL (tuN x s0 s1) = [] := fun h => by unfold timL; rw [h]; simp [joinL, joinK]
      obtain ⟨er, he, t1', t2'⟩ : ∃ er : Int, (er = 0 ∨ er = 7) ∧ SC Try.prog 31 [cDw W, slS (tuL x s0 s1), cS (A - 60) (A + 60), cS (x.w0 - 128) (x.w0 - 128 + x.w1 % 100)] (.tup [slS (timL (tuN x s0 s1)), I er]) ∧
          SC Try.prog 31 [cDw W, slS (tuL x s0 s1), cS (A + b - 60) (A + b + 60), cS (x.w0 - 128) (x.w0 - 128 + x.w1 % 100)] (.tup [slS ((timL (tuN x s0 s1)).map (shP b)), I er]) := by
        have g1 : cDw (tuN x s0 s1).w = cDw W := by rw [← hW]; rfl
        have g2 : cDw (shN b (tuN x s0 s1)).w = cDw W := by rw [← hW]; rfl
        have g3 : cS (tuN x s0 s1).nlo (tuN x s0 s1).nhi = cS (A - 60) (A + 60) := by rw [← hA]; rfl
        have g4 : cS (shN b (tuN x s0 s1)).nlo (shN b (tuN x s0 s1)).nhi = cS (A + b - 60) (A + b + 60) := by
          show cS (x.t + 4000 - 60 + b) (x.t + 4000 + 60 + b) = _
          rw [hA, show A - 60 + b = A + b - 60 by omega, show A + 60 + b = A + b + 60 by omega]
        rw [g1, g3] at t1
        rw [g2, g4] at t2
        by_cases hr : timRaw (tuN x s0 s1) = []
        · rw [if_pos hr] at t1
          rw [if_pos (hrn.2 hr)] at t2
          rw [hnil hr]
          exact ⟨7, .inr rfl, t1, t2⟩
        · rw [if_neg hr] at t1
          rw [if_neg fun h => hr (hrn.1 h)] at t2
          exact ⟨0, .inl rfl, t1, t2⟩
      have l1 := lReadings (tuL x s0 s1) (by show 2 ≤ 1000000; decide)
      have l2 := lSpan (A - 60) (A + 60)
      have l3 := lSpan (A + b - 60) (A + b + 60)
      have hll : (tuL x s0 s1).length = 2 := rfl
      have htk : (tuL x s0 s1).take 2 = tuL x s0 s1 := rfl
      generalize timL (tuN x s0 s1) = tl at *
      rw [htk]
      generalize tuL x s0 s1 = rl at *
      clear t1 t2 ok1 ok2 e0 hjn hraw hrn hnil htu tl3
      have her : ¬ (¬ er = 0 ∧ ¬ er = 7) := by omega
      (repeat' (first | ((with_reducible show STri _ c_turretlaw04_DialTurned_57 _ _ _); refine st_shut1 127 rfl (by simp [dropOK, dropK]) (by simp [ClosO, ownS, dropK, SV.outD, hll]) (by simp [ShutH, ShutB, ownL, ownS, dropK, SV.outD, outDL, Blk.outD]) ?_; simp) | ((first | with_reducible refine st_skip ?_ | with_reducible refine st_exit ?_); (try simp only [seqQ, blockQ, loopQ, forQ, whileQ, reduceIte, Nat.reduceEqDiff])) | (with_reducible refine st_ret ?_; ((try simp only [seqQ, blockQ, loopQ, forQ, whileQ]); first | (with_reducible refine retM_ret ?_) | refine retQ_ret ?_; simp [hll, her])) | refine st_seq ?_ | refine st_block ?_ | ((first | refine st_reg ?_ | refine buildP_own ?_ | refine callP_b (c5) rfl ?_ | refine callP_b (l1) rfl ?_ | refine callP_b (l2) rfl ?_ | refine callP_b (l3) rfl ?_ | refine callP_b (t1') rfl ?_ | refine callP_b (t2') rfl ?_) <;> (simp -dsimp [hll, her]; (repeat (simp -dsimp (disch := (first | omega | assumption | (refine Bool.eq_false_iff.1 ?_; assumption))) only [wrap_in, if_pos, if_neg]; (try simp -dsimp [hll, her]))))) | ((first | refine guardP_of (fun hc => ?_) (fun hc => ?_) | refine st_cond rfl (fun hc => ?_) (fun hc => ?_)) <;> (try simp only [decide_eq_true_eq, decide_eq_false_iff_not, Bool.true_eq_false, Bool.false_eq_true, bne_iff_ne, ne_eq, bne_eq_false_iff_eq, beq_iff_eq, beq_eq_false_iff_ne, Bool.not_eq_true, Bool.not_eq_false, Bool.not_eq_eq_eq_not, Bool.not_true, Bool.not_false, Decidable.not_not] at hc) <;> (try (exfalso; first | omega | exact bool_tf hc (by assumption) | exact bool_ft hc (by assumption) | exact absurd (by assumption) hc)) <;> (first | with_reducible show STri _ _ _ _ _ _ | (simp -dsimp [hll, her, hc]; (repeat (simp -dsimp (disch := (first | omega | assumption | (refine Bool.eq_false_iff.1 ?_; assumption))) only [wrap_in, if_pos, if_neg]; (try simp -dsimp [hll, her, hc]))))))))
      all_goals
        refine st_for [] tl.length (fun m T H => T = [(10, .c (I b)), (23, .c (.sl 2 (tl.map rowS))), (25, .c (.sl 2 (tl.map (rowS ∘ shP b)))), (27, .c (I m))] ∧ H = []) (by simp) ⟨by simp, by simp⟩ ?_
        rintro m T H hm ⟨rfl, rfl⟩
        by_cases hmt : m < tl.length
        · have g1 : ∀ h : m < (tl.map rowS).length, (tl.map rowS)[m]'h = rowS tl[m] := fun h => by simp
          have g2 : ∀ h : m < (tl.map (rowS ∘ shP b)).length, (tl.map (rowS ∘ shP b))[m]'h = [I (tl[m].1 + b), I (tl[m].2 + b)] := fun h => by simp [shP]
          have g3 := tsm _ (List.getElem_mem hmt)
          generalize tl[m] = y at *
          (repeat' (first | ((first | with_reducible refine st_skip ?_ | with_reducible refine st_exit ?_); (try simp only [seqQ, blockQ, loopQ, forQ, whileQ, reduceIte, Nat.reduceEqDiff])) | (with_reducible refine st_ret ?_; ((try simp only [seqQ, blockQ, loopQ, forQ, whileQ]); first | (with_reducible refine retM_ret ?_) | refine retQ_ret ?_; simp [hmt, g1, g2])) | refine st_seq ?_ | refine st_block ?_ | ((first | refine st_reg ?_ | refine buildP_own ?_) <;> (simp -dsimp [hmt, g1, g2]; (repeat (simp -dsimp (disch := (first | omega | assumption | (refine Bool.eq_false_iff.1 ?_; assumption))) only [wrap_in, if_pos, if_neg]; (try simp -dsimp [hmt, g1, g2]))))) | ((first | refine guardP_of (fun hc => ?_) (fun hc => ?_) | refine st_cond rfl (fun hc => ?_) (fun hc => ?_)) <;> (try simp only [decide_eq_true_eq, decide_eq_false_iff_not, Bool.true_eq_false, Bool.false_eq_true, bne_iff_ne, ne_eq, bne_eq_false_iff_eq, beq_iff_eq, beq_eq_false_iff_ne, Bool.not_eq_true, Bool.not_eq_false, Bool.not_eq_eq_eq_not, Bool.not_true, Bool.not_false, Decidable.not_not] at hc) <;> (try (exfalso; first | omega | exact bool_tf hc (by assumption) | exact bool_ft hc (by assumption) | exact absurd (by assumption) hc)) <;> (first | with_reducible show STri _ _ _ _ _ _ | (simp -dsimp [hmt, g1, g2, hc]; (repeat (simp -dsimp (disch := (first | omega | assumption | (refine Bool.eq_false_iff.1 ?_; assumption))) only [wrap_in, if_pos, if_neg]; (try simp -dsimp [hmt, g1, g2, hc]))))))))
          all_goals exact ⟨hmt, by simp, by simp, by simp⟩
        · (repeat' (first | ((first | with_reducible refine st_skip ?_ | with_reducible refine st_exit ?_); (try simp only [seqQ, blockQ, loopQ, forQ, whileQ, reduceIte, Nat.reduceEqDiff])) | (with_reducible refine st_ret ?_; ((try simp only [seqQ, blockQ, loopQ, forQ, whileQ]); first | (with_reducible refine retM_ret ?_) | refine retQ_ret ?_; simp [hmt])) | refine st_seq ?_ | refine st_block ?_ | ((first | refine st_reg ?_ | refine buildP_own ?_ | refine callP_b (a2) rfl ?_) <;> (simp -dsimp [hmt]; (repeat (simp -dsimp (disch := (first | omega | assumption | (refine Bool.eq_false_iff.1 ?_; assumption))) only [wrap_in, if_pos, if_neg]; (try simp -dsimp [hmt]))))) | ((first | refine guardP_of (fun hc => ?_) (fun hc => ?_) | refine st_cond rfl (fun hc => ?_) (fun hc => ?_)) <;> (try simp only [decide_eq_true_eq, decide_eq_false_iff_not, Bool.true_eq_false, Bool.false_eq_true, bne_iff_ne, ne_eq, bne_eq_false_iff_eq, beq_iff_eq, beq_eq_false_iff_ne, Bool.not_eq_true, Bool.not_eq_false, Bool.not_eq_eq_eq_not, Bool.not_true, Bool.not_false, Decidable.not_not] at hc) <;> (try (exfalso; first | omega | exact bool_tf hc (by assumption) | exact bool_ft hc (by assumption) | exact absurd (by assumption) hc)) <;> (first | with_reducible show STri _ _ _ _ _ _ | (simp -dsimp [hmt, hc]; (repeat (simp -dsimp (disch := (first | omega | assumption | (refine Bool.eq_false_iff.1 ?_; assumption))) only [wrap_in, if_pos, if_neg]; (try simp -dsimp [hmt, hc]))))))))
          all_goals exact .refl _

end Go.Proofs.Ytnfggkopledpcaa
/- Dial's towers opened. -/
namespace Go.Proofs.Ytnfggkopledpcaa
open Go.RowKit Go.ChangeShapes Go.WideShapes Go.ChangeAt

theorem Try.plainT : plainB Try.prog 8 57 = true := by kernel_rfl
theorem Try.cells6 : Try.prog.cellsOf 122 = 6 := by kernel_rfl
theorem Try.cells1 : Try.prog.cellsOf 5 = 1 := by kernel_rfl

theorem wf8 {n : Int} (h : (Lit.int .u8 n).wf = true) : 0 ≤ n ∧ n ≤ 255 := by
  simp only [Lit.wf, Bool.and_eq_true, decide_eq_true_eq] at h
  exact h
theorem wf16 {n : Int} (h : (Lit.int .u16 n).wf = true) : 0 ≤ n ∧ n ≤ 65535 := by
  simp only [Lit.wf, Bool.and_eq_true, decide_eq_true_eq] at h
  exact h
theorem ty_u8 {d : Nat} {cs : List CV} (h : tyC Try.prog d 5 cs) : ∃ n, cs = [U8 n] ∧ 0 ≤ n ∧ n ≤ 255 := by
  obtain ⟨n, h, hw⟩ := tyC_int Try.underlying5 h; exact ⟨n, h, wf8 hw⟩
theorem ty_two {d : Nat} {cs : List CV} (h : tyC Try.prog d 52 cs) : ∃ a b, cs = [U8 a, U8 b] ∧ (0 ≤ a ∧ a ≤ 255) ∧ 0 ≤ b ∧ b ≤ 255 := by
  obtain ⟨d, c1, r1, rfl, t1, c2, r2, rfl, t2, t4⟩ := tyC_array Try.underlying52 h
  obtain ⟨a, rfl, ha⟩ := ty_u8 t1
  obtain ⟨b, rfl, hb⟩ := ty_u8 t2
  have t4 : r2 = [] := t4
  subst t4
  exact ⟨a, b, rfl, ha, hb⟩
theorem ty_six {d : Nat} {cs : List CV} (h : tyC Try.prog d 122 cs) : ∃ v, cs = rowV v ∧ FvOk v := by
  obtain ⟨d, c1, r1, rfl, t1, c2, r2, rfl, t2, c3, r3, rfl, t3, c4, r4, rfl, t4, c5, r5, rfl, t5, c6, r6, rfl, t6, t7⟩ := tyC_array Try.underlying122 h
  obtain ⟨n1, rfl, h1⟩ := ty_u8 t1
  obtain ⟨n2, rfl, h2⟩ := ty_u8 t2
  obtain ⟨n3, rfl, h3⟩ := ty_u8 t3
  obtain ⟨n4, rfl, h4⟩ := ty_u8 t4
  obtain ⟨n5, rfl, h5⟩ := ty_u8 t5
  obtain ⟨n6, rfl, h6⟩ := ty_u8 t6
  have t7 : r6 = [] := t7
  subst t7
  exact ⟨⟨n1, n2, n3, n4, n5, n6⟩, rfl, h1, h2, h3, h4, h5, h6⟩
theorem ty_vs {d : Nat} {cs : List CV} (h : tyC Try.prog d 53 cs) : ∃ xs : List Fv, cs = [.sl 6 (xs.map rowV)] ∧ xs.length ≤ 9223372036854775807 ∧ ∀ v ∈ xs, FvOk v := by
  obtain ⟨d', rows, h, hl, h2⟩ := tyC_slice Try.underlying53 h
  rw [Try.cells6] at h
  obtain ⟨xs, rfl⟩ := rows_map (f := fun v : {v : Fv // FvOk v} => rowV v.1) (fun row hr => by obtain ⟨v, h1, h2⟩ := ty_six (h2 row hr); exact ⟨⟨v, h2⟩, h1⟩)
  refine ⟨xs.map (·.1), by rw [h]; simp, by simpa [maxLen] using hl, fun v hv => ?_⟩
  obtain ⟨x, _, rfl⟩ := List.mem_map.1 hv
  exact x.2
theorem ty_bytes {d : Nat} {cs : List CV} (h : tyC Try.prog d 55 cs) : ∃ xs : List Int, cs = [.sl 1 (xs.map rowB)] ∧ xs.length ≤ 9223372036854775807 ∧ ∀ n ∈ xs, 0 ≤ n ∧ n ≤ 255 := by
  obtain ⟨d', rows, h, hl, h2⟩ := tyC_slice Try.underlying55 h
  rw [Try.cells1] at h
  obtain ⟨xs, rfl⟩ := rows_map (f := fun v : {n : Int // 0 ≤ n ∧ n ≤ 255} => rowB v.1) (fun row hr => by obtain ⟨v, h1, h2⟩ := ty_u8 (h2 row hr); exact ⟨⟨v, h2⟩, h1⟩)
  refine ⟨xs.map (·.1), by rw [h]; simp, by simpa [maxLen] using hl, fun v hv => ?_⟩
  obtain ⟨x, _, rfl⟩ := List.mem_map.1 hv
  exact x.2
theorem ty_tower {d : Nat} {cs : List CV} (h : tyC Try.prog d 57 cs) : ∃ x : Tw, cs = [U8 x.j, U8 x.f, U8 x.e0, U8 x.e1, .sl 6 (x.faces.map rowV), U16 x.t, U8 x.w0, U8 x.w1, .sl 1 (x.truth.map rowB)] ∧ TwOk x := by
  obtain ⟨d', c1, r1, rfl, h1, c2, r2, rfl, h2, c3, r3, rfl, h3, c4, r4, rfl, h4, c5, r5, rfl, h5, c6, r6, rfl, h6, c7, r7, rfl, h7, h8⟩ := tyC_struct Try.underlying57 h
  obtain ⟨j, rfl, hj⟩ := ty_u8 h1
  obtain ⟨f, rfl, hf⟩ := ty_u8 h2
  obtain ⟨e0, e1, rfl, he0, he1⟩ := ty_two h3
  obtain ⟨vs, rfl, hv1, hv2⟩ := ty_vs h4
  obtain ⟨t, rfl, ht⟩ := tyC_int Try.underlying54 h5
  obtain ⟨w0, w1, rfl, hw0, hw1⟩ := ty_two h6
  obtain ⟨bs, rfl, hb1, hb2⟩ := ty_bytes h7
  have h8 : r7 = [] := h8
  subst h8
  exact ⟨⟨j, f, e0, e1, vs, t, w0, w1, bs⟩, rfl, hj, he0, he1, hv2, hv1, wf16 ht, hw0, hw1, hb2, hb1⟩
set_option maxRecDepth 100000 in
theorem open_tower {H : Type} {enc : TypeId × Value → H} {w : World} {spare : Nat → Bool} {held : Bool} {v : Value} {x : DataW H} {ps : List MemPlace} (h : DataW.Trod enc Try.prog w 0 spare held 57 v x ps) : ∃ c : Tw, RepC w (fun _ => False) (cTw c) v ∧ TwOk c := by
  obtain ⟨n, h⟩ := h
  obtain ⟨cs, h1, h2⟩ := open_tyC Try.plainT h
  obtain ⟨c, rfl, hm⟩ := ty_tower h1
  have hs : v.cells.size = 9 := by have := h2.1; simp at this; omega
  have hv := agg_cells (v := v) (by omega)
  refine ⟨c, ?_, hm⟩
  rw [hv]
  exact .agg _ _ (by simpa using hs) (fun i x u hx hu => h2.2 i x u hx (by simpa using hu))

end Go.Proofs.Ytnfggkopledpcaa
/- The last step: DialTurned. -/
namespace Go.Proofs.Ytnfggkopledpcaa
open Go.RowKit Go.ChangeShapes Go.WideShapes Go.ChangeAt

theorem Try.plainH : plainB Try.prog 8 89 = true := by kernel_rfl
theorem ty_u16 {d : Nat} {cs : List CV} (h : tyC Try.prog d 54 cs) : ∃ n, cs = [U16 n] ∧ 0 ≤ n ∧ n ≤ 65535 := by
  obtain ⟨n, h, hw⟩ := tyC_int Try.underlying54 h; exact ⟨n, h, wf16 hw⟩
set_option maxRecDepth 100000 in
theorem open_two {H : Type} {enc : TypeId × Value → H} {w : World} {spare : Nat → Bool} {held : Bool} {v : Value} {x : DataW H} {ps : List MemPlace} (h : DataW.Trod enc Try.prog w 0 spare held 89 v x ps) : ∃ a b : Int, RepC w (fun _ => False) (.agg [U16 a, U16 b]) v ∧ (0 ≤ a ∧ a ≤ 65535) ∧ 0 ≤ b ∧ b ≤ 65535 := by
  obtain ⟨n, h⟩ := h
  obtain ⟨cs, h1, h2⟩ := open_tyC Try.plainH h
  obtain ⟨d, c1, r1, rfl, t1, c2, r2, rfl, t2, t4⟩ := tyC_array Try.underlying89 h1
  obtain ⟨a, rfl, ha⟩ := ty_u16 t1
  obtain ⟨b, rfl, hb⟩ := ty_u16 t2
  have t4 : r2 = [] := t4
  subst t4
  have hs : v.cells.size = 2 := by have := h2.1; simp at this; omega
  have hv := agg_cells (v := v) (by omega)
  refine ⟨a, b, ?_, ha, hb⟩
  rw [hv]
  exact .agg _ _ (by simpa using hs) (fun i x u hx hu => h2.2 i x u hx (by simpa using hu))

set_option maxRecDepth 100000 in
theorem turned_lifted (os : Os) (started : os.Started) (H : Type) (enc : TypeId × Value → H) :
    ReturnsInHanded {} Try.checked os 8 .any (Rows.dialTurnedSpec.pre6 enc Try.prog Try.f8 Rows.dialTurnedRow.domain false) (Rows.dialTurnedSpec.post enc Try.prog Try.f8 false true false false) := by
  refine returnsInHanded_of_change (C := Try.checked) Try.own started (by kernel_rfl) Try.func8
    (ChangeSpec.witness6 (enc := enc) (C := Try.checked) false ⟨#[], #[.agg #[.int .u8 0, .int .u8 0, .int .u8 0, .int .u8 0, .slice none 0 0, .int .u16 0, .int .u8 0, .int .u8 0, .slice none 0 0], .int .u8 0, .agg #[.int .u16 0, .int .u16 0]], []⟩ 8 (by kernel_rfl) (by kernel_rfl) (by kernel_rfl) (by kernel_rfl)) ?_
  intro W base args ds gs before hval0 hW hcnd _
  have hW' := hW
  obtain ⟨p, q, hA0, hV, rfl, hfz, hnd⟩ := hW
  have hA : DataW.TrodAll enc Try.prog W 0 (fun _ => true) true Try.f8.params.toList args.toList ds p := hA0
  rw [Try.params8] at hA
  obtain ⟨v0, v1, v2, d0, d1, d2, q0, q1, q2, rfl, rfl, rfl, h0, h1, h2⟩ := trodAll_three hA
  obtain ⟨rfl, rfl⟩ := trodVars_none hV
  obtain ⟨c, hc, hcm⟩ := open_tower h0
  obtain ⟨n, rfl, rfl, rfl, hn⟩ := open_int Try.underlying5 (hval0 1 _ v1 rfl rfl) h1
  obtain ⟨n1, n2⟩ := wf8 hn
  obtain ⟨s0, s1, hs, m1, m2⟩ := open_two h2
  clear hA0 hval0
  refine (lTurned c hcm n s0 s1 n1 n2 m1.1 m1.2 m2.1 m2.2 W (fun _ => False) #[v0, .int .u8 n, v2] (fun b hb => hb.elim) rfl (fun i x v hx' hv => ?_)).mono fun e W' ⟨v, he, hr, hx⟩ => ?_
  · match i with
    | 0 => cases hx'; cases hv; exact hc
    | 1 => cases hx'; cases hv; exact .val _
    | 2 => cases hx'; cases hv; exact hs
    | i + 3 => simp at hx'
  subst he
  have hv := val_inv hr
  subst hv
  exact ⟨_, rfl, post_ext Try.kids Try.full (by rw [Try.params8]; decide +kernel) rfl hW' (fun _ _ _ => trodAll_mk1 (shut_bool Try.underlying4 _)) rfl rfl hx (ok_one (by kernel_rfl) rfl (okWide_bool_mk Try.underlying4 _))⟩

theorem dialTurned_holds : Rows.DialTurnedSaid :=
  OpenClaim.holds_of_wide 8 Try.f8 rfl rfl rfl rfl rfl rfl rfl ⟨rfl, rfl, rfl, rfl, rfl⟩ rfl rfl rfl rfl rfl (by kernel_rfl) Try.func8 (by kernel_rfl)
    (of_decide_eq_true (by kernel_rfl)) (by unfold Func.isWrapper; first | (rw [if_pos (by decide +kernel)]; kernel_rfl) | (rw [if_neg (by decide +kernel)]; exact ⟨rfl, rfl⟩))
    (fun os started H enc _ => turned_lifted os started H enc)
#print axioms dialTurned_holds

end Go.Proofs.Ytnfggkopledpcaa
