/- Part 7 of a proof: Nl, Gw2. -/
import Derived.Test.YtakdmliblijgmaaQ6
set_option linter.unusedSimpArgs false
set_option linter.unusedVariables false
/- Wire's plain laws, XII: stretched, walked. -/
namespace Go.Proofs.Ytakdmliblijgmaa
open Go.RowKit
def rndW (n : Nat) : Nat := if n = 0 then 1 else 2
set_option maxRecDepth 100000 in
set_option maxHeartbeats 8000000 in
theorem lWider (x : Of) (hx : OfOk x) (s : Sh8) (hs : ShOk s) (who : Int) (hwho : isU8 who) : SC Try.prog 9 [cOf x, cSh s, U8 who] (B true) := by
  refine glaw_turretlaw08_WireWider _ _ (by simp) ?_
  obtain ⟨w1, w2⟩ := hwho
  obtain ⟨y1, y2⟩ := hx.y
  have kn := sKnown
  have l1 := lOffS x hx
  have l2 := lBy x hx
  have l3 := lOffN x hx
  obtain ⟨y, hy⟩ : ∃ y, x.by' - 128 = y := ⟨_, rfl⟩
  rw [hy] at l2
  have l4 := lSpan (y - 60) (y + 60)
  have hsp := near_ok (y := y) (a := 60) (c := 60) (by omega) (by omega) (by omega) (by omega) (by omega) (by omega)
  have h8 := offN_len x
  have hwl := off_wlen hx
  have hw5 := numS_bd x
  have hol := offW_len x
  have c14 := lSources (offW x) hwl (by omega)
  have f14 := lSourcesF (offW x) hwl (by omega)
  have hz1 := Int.emod_nonneg who (show ((numS x : Nat) : Int) ≠ 0 by omega)
  have hz2 := Int.emod_lt_of_pos who (show 0 < ((numS x : Nat) : Int) by omega)
  obtain ⟨j, hj⟩ : ∃ j : Nat, who % ((numS x : Nat) : Int) = j := ⟨(who % ((numS x : Nat) : Int)).toNat, by omega⟩
  have hjn : j < numS x := by omega
  have hmw : who.tmod ((offW x).length : Int) = (j : Int) := by rw [hol, Int.tmod_eq_emod_of_nonneg w1, hj]
  have hnw : ¬ offW x = [] := fun h => by rw [h] at hol; simp at hol; omega
  have hjw : j < (offW x).length := by omega
  have hgw : ∀ h : j < (offW x).length, (offW x)[j]'h = srcS (svAt x j) := fun h => offW_get x h
  have hgd : (offW x).getD j noSrc = srcS (svAt x j) := by rw [← hgw hjw]; simp [hjw]
  have hsb := src_bd (svAt_ok hx j)
  generalize hl : chgL (chC j s) (offN x) = l
  have hll : l.length = (offN x).length := by rw [← hl, chgL_len]
  have hin : ∀ n ∈ l, NtIn x n := fun n hn => chC_in hx hs (by rw [hl]; exact hn)
  have c15 := lSaid l (by omega)
  have hn1 := newErr_zero hx (l := l) (by omega) hin hsp
  obtain ⟨e1, e2, e3, e4, e5⟩ := new_nz hn1
  have hb := new_bk hn1
  have p1 := sStretch (offW x) hwl l (by omega) (y - 60) (y + 60) j
  have p2 := sFits (offW x) hwl l (by omega) (y - 60) (y + 60)
  have hje : j < (newBk (offW x) l (y - 60) (y + 60)).errs.length := by rw [e2]; simpa using hjw
  have hsf := str_fit hje
  have hq : within1 0 (((offW x).length : Int) - 1) (j : Int) = true := by unfold within1; simp; omega
  rw [if_pos hn1, if_pos hn1, if_pos hq, if_pos hq, Int.toNat_natCast] at p1
  rw [if_pos hn1, if_pos hn1] at p2
  obtain ⟨m1, m2, m3⟩ := leastN_spec (fun y' => fitB (wideB (newBk (offW x) l (y - 60) (y + 60)) j (y' : Nat))) 10001
  change strN (newBk (offW x) l (y - 60) (y + 60)) j ≤ 10001 at m1
  change ∀ i, i < strN (newBk (offW x) l (y - 60) (y + 60)) j → fitB (wideB (newBk (offW x) l (y - 60) (y + 60)) j (i : Nat)) = false at m2
  change strN (newBk (offW x) l (y - 60) (y + 60)) j < 10001 → fitB (wideB (newBk (offW x) l (y - 60) (y + 60)) j ((strN (newBk (offW x) l (y - 60) (y + 60)) j : Nat) : Int)) = true at m3
  have hfe : ∀ b : Wbk, ∀ er : Int, er = (if fitB b = true then 0 else 7) → (if (spansL b fun m => decide (m = 0)) = [] then (7 : Int) else 0) = er := fun b er he => by
    rw [he]
    by_cases hf : fitB b = true
    · rw [if_pos hf, if_neg (fun h => by rw [fit_nil.1 h] at hf; cases hf)]
    · rw [if_neg hf, if_pos (fit_nil.2 (by simpa using hf))]
  rw [hfe _ _ rfl] at p2
  have wide : ∀ d : Nat, -3600 ≤ (srcS (svAt x j)).elo - (d : Int) → (srcS (svAt x j)).ehi + (d : Int) ≤ 3600 → ∃ r, SC Try.prog 16 [slSr (wideW (offW x) j d), slN l, .agg [I (y - 60), I (y + 60)]] (.tup [slE r, I (if fitB (wideB (newBk (offW x) l (y - 60) (y + 60)) j d) = true then 0 else 7)]) := fun d d1 d2 => by
    have hwe := wideW_err hn1 hjw (y := (d : Int)) (by omega) (by rw [hgd]; exact d1) (by rw [hgd]; exact d2)
    have q := sFits (wideW (offW x) j d) (wideW_ok hwl hjw _) l (by omega) (y - 60) (y + 60)
    rw [if_pos hwe, if_pos hwe, hfe _ _ rfl, wideW_fit hn1 hjw hwe] at q
    exact ⟨_, q⟩
  generalize strN (newBk (offW x) l (y - 60) (y + 60)) j = N at *
  generalize newBk (offW x) l (y - 60) (y + 60) = b at *
  obtain ⟨r0, p2'⟩ : ∃ r, SC Try.prog 16 [slSr (offW x), slN l, .agg [I (y - 60), I (y + 60)]] (.tup [slE r, I (if fitB b = true then 0 else 7)]) := ⟨_, p2⟩
  have hset : ∀ d : Nat, ((offW x).map rowSr).set j [I (srcS (svAt x j)).kind, I ((srcS (svAt x j)).elo - (d : Int)), I ((srcS (svAt x j)).ehi + (d : Int)), I (srcS (svAt x j)).at', I (srcS (svAt x j)).dlo, I (srcS (svAt x j)).dhi, I (srcS (svAt x j)).every, .sl 1 ((srcS (svAt x j)).table.map rowI)] = (wideW (offW x) j d).map rowSr := fun d => by
    unfold wideW
    rw [List.map_set, hgd]
    rfl
  have hwwl : ∀ d : Nat, (wideW (offW x) j d).length = (offW x).length := fun d => wideW_len _ _ _
  have hwwg : ∀ (d : Nat) (h : j < (wideW (offW x) j d).length), (wideW (offW x) j d)[j]'h = wideS (srcS (svAt x j)) d := fun d h => by
    unfold wideW; simp only [hgd]; simp
  clear p2 e1 e2 e3 e4 e5 hb hn1 hsp hje hfe hgd hin
  have s0 := hsb.e0
  have s1 := hsb.e1
  have s2 := hsb.e2
  have s3 := hsb.e3
  clear hsb
  obtain ⟨l0, hl0⟩ : ∃ l0, offN x = l0 := ⟨_, rfl⟩
  rw [hl0] at hl hll h8 l3
  generalize hW : offW x = W at *
  generalize srcS (svAt x j) = sj at *
  generalize wideW W j = ww at *
  (repeat' (first | ((first | with_reducible refine st_skip ?_ | with_reducible refine st_exit ?_); (try simp only [seqQ, blockQ, loopQ, forQ, whileQ, reduceIte, Nat.reduceEqDiff])) | (with_reducible refine st_ret ?_; ((try simp only [seqQ, blockQ, loopQ, forQ, whileQ]); first | (with_reducible refine retM_ret ?_) | refine retQ_ret ?_; simp [hy, hmw, hnw])) | refine st_seq ?_ | refine st_block ?_ | ((with_reducible show (STri _ _ _ _ _) ∧ (STri _ _ _ _ _)); refine And.intro ?_ ?_) | ((first | refine st_reg ?_ | refine buildP_own ?_ | refine appP_own ?_ | ((with_reducible show callGP _ _ _ _ _ _ _); refine callG_n (l3) ?hcc ?hpp ?hnn ?_; (case hcc => (first | rfl | (simp <;> fail) | (simp [] <;> fail))); (case hpp => (first | rfl | (simp <;> fail) | (simp [] <;> fail))); (case hnn => (first | rfl | (simp <;> fail) | (simp [] <;> fail)))) | ((with_reducible show callGP _ _ _ _ _ _ _); refine callG_b (l1) ?hcc ?hpp ?_; (case hcc => (first | rfl | (simp <;> fail))); (case hpp => (first | rfl | (simp <;> fail)))) | ((with_reducible show callGP _ _ _ _ _ _ _); refine callG_b (l2) ?hcc ?hpp ?_; (case hcc => (first | rfl | (simp <;> fail))); (case hpp => (first | rfl | (simp <;> fail)))) | ((with_reducible show callGP _ _ _ _ _ _ _); refine callG_b (l4) ?hcc ?hpp ?_; (case hcc => (first | rfl | (simp <;> fail))); (case hpp => (first | rfl | (simp <;> fail)))) | refine callP_b (l1) rfl ?_ | refine callP_b (l2) rfl ?_ | refine callP_b (l4) rfl ?_) <;> (simp -dsimp [hy, hmw, hnw]; (repeat (simp -dsimp (disch := (first | omega | assumption | (refine Bool.eq_false_iff.1 ?_; assumption))) only [wrap_in, if_pos, if_neg]; (try simp -dsimp [hy, hmw, hnw]))))) | ((first | refine guardP_of (fun hc => ?_) (fun hc => ?_) | refine st_cond rfl (fun hc => ?_) (fun hc => ?_)) <;> (try simp only [lqA, lqB, lqC, lqD, lqE, lqF, lqG, lqH, lqI, lqJ, lqK, lqL, lqM, lqN, lqO] at hc) <;> (try (exfalso; first | omega | exact bool_tf hc (by assumption) | exact bool_ft hc (by assumption) | exact absurd (by assumption) hc)) <;> (first | with_reducible show STri _ _ _ _ _ _ | (simp -dsimp [hy, hmw, hnw, hc]; (repeat (simp -dsimp (disch := (first | omega | assumption | (refine Bool.eq_false_iff.1 ?_; assumption))) only [wrap_in, if_pos, if_neg]; (try simp -dsimp [hy, hmw, hnw, hc]))))))))
  refine st_for [4, 8, 31] l0.length (fun k T H => T = [(4, .ptr 4 0), (7, .c (slSr W)), (8, .ptr 8 0), (9, .own 31 l0.length), (10, .c (I j)), (11, .c (I k))] ∧
    H = [(4, .box 82 ((rowSh s).map .c)), (8, .box 25 [.c (I (y - 60)), .c (I (y + 60))]), (31, .arr 73 3 ((chgTo (chC j s) l0 k).map rowN))]) (by simp) ⟨by simp, by simp [chgTo_zero]⟩ ?_
  rintro k T H hk ⟨rfl, rfl⟩
  by_cases hlt : k < l0.length
  · have hk8 : k < 8 := by omega
    have hgs := sh_get s hk8
    obtain ⟨t1, t2⟩ := shAt_bd hs hk8
    have hcl := chgTo_len (chC j s) l0 (k := k) (by omega)
    have hnl := chgTo_len (chC j s) l0 (k := k + 1) (by omega)
    have hcg := chgTo_get (chC j s) l0 hlt
    have hset' := chgTo_set (chC j s) l0 hlt
    have hskip := chgTo_skip (chC j s) l0 hlt
    have htk := (offN_tick hx (n := l0[k]) (by rw [hl0]; exact List.getElem_mem hlt))
    obtain ⟨⟨_, u0, _⟩, u1⟩ := htk
    have hge : ∀ h : k < (chgTo (chC j s) l0 k).length, (chgTo (chC j s) l0 k)[k]'h = l0[k] := fun _ => hcg
    have hsm : ((chgTo (chC j s) l0 k).map rowN).set k (rowN (chC j s k l0[k])) = (chgTo (chC j s) l0 (k + 1)).map rowN := by
      rw [← hset', List.map_set]
    clear hcg hset'
    generalize l0[k] = n at *
    generalize hcu : chgTo (chC j s) l0 k = cur at *
    generalize hnx : chgTo (chC j s) l0 (k + 1) = nxt at *
    have hch : chC j s k n = chC j s k n := rfl
    conv at hch => rhs; unfold chC
    by_cases hsj : n.src = j
    · by_cases c1 : 100 ≤ shAt s k
      · rw [if_pos ⟨hsj, c1⟩] at hch
        rw [hch] at hsm
        by_cases c2 : 0 < n.tick + shAt s k - 150
        · rw [show max 0 (n.tick + shAt s k - 150) = n.tick + shAt s k - 150 by omega] at hsm
          simp only [rowN, hsj] at hsm
          (repeat' (first | ((first | with_reducible refine st_skip ?_ | with_reducible refine st_exit ?_); (try simp only [seqQ, blockQ, loopQ, forQ, whileQ, reduceIte, Nat.reduceEqDiff])) | (with_reducible refine st_ret ?_; ((try simp only [seqQ, blockQ, loopQ, forQ, whileQ]); first | (with_reducible refine retM_ret ?_) | refine retQ_ret ?_; simp [hlt, hgs, hk8, hcl, hge, hsj, c1, c2, hsm, hnl])) | refine st_seq ?_ | refine st_block ?_ | ((with_reducible show (STri _ _ _ _ _) ∧ (STri _ _ _ _ _)); refine And.intro ?_ ?_) | ((first | refine st_reg ?_ | refine buildP_own ?_ | refine appP_own ?_) <;> (simp -dsimp [hlt, hgs, hk8, hcl, hge, hsj, c1, c2, hsm, hnl]; (repeat (simp -dsimp (disch := (first | omega | assumption | (refine Bool.eq_false_iff.1 ?_; assumption))) only [wrap_in, if_pos, if_neg]; (try simp -dsimp [hlt, hgs, hk8, hcl, hge, hsj, c1, c2, hsm, hnl]))))) | ((first | refine guardP_of (fun hc => ?_) (fun hc => ?_) | refine st_cond rfl (fun hc => ?_) (fun hc => ?_)) <;> (try simp only [lqA, lqB, lqC, lqD, lqE, lqF, lqG, lqH, lqI, lqJ, lqK, lqL, lqM, lqN, lqO] at hc) <;> (try (exfalso; first | omega | exact bool_tf hc (by assumption) | exact bool_ft hc (by assumption) | exact absurd (by assumption) hc)) <;> (first | with_reducible show STri _ _ _ _ _ _ | (simp -dsimp [hlt, hgs, hk8, hcl, hge, hsj, c1, c2, hsm, hnl, hc]; (repeat (simp -dsimp (disch := (first | omega | assumption | (refine Bool.eq_false_iff.1 ?_; assumption))) only [wrap_in, if_pos, if_neg]; (try simp -dsimp [hlt, hgs, hk8, hcl, hge, hsj, c1, c2, hsm, hnl, hc]))))))))
          all_goals exact ⟨hlt, by simp, by simp, by simp [hnx]⟩
        · rw [show max 0 (n.tick + shAt s k - 150) = 0 by omega] at hsm
          simp only [rowN, hsj] at hsm
          (repeat' (first | ((first | with_reducible refine st_skip ?_ | with_reducible refine st_exit ?_); (try simp only [seqQ, blockQ, loopQ, forQ, whileQ, reduceIte, Nat.reduceEqDiff])) | (with_reducible refine st_ret ?_; ((try simp only [seqQ, blockQ, loopQ, forQ, whileQ]); first | (with_reducible refine retM_ret ?_) | refine retQ_ret ?_; simp [hlt, hgs, hk8, hcl, hge, hsj, c1, c2, hsm, hnl])) | refine st_seq ?_ | refine st_block ?_ | ((with_reducible show (STri _ _ _ _ _) ∧ (STri _ _ _ _ _)); refine And.intro ?_ ?_) | ((first | refine st_reg ?_ | refine buildP_own ?_ | refine appP_own ?_) <;> (simp -dsimp [hlt, hgs, hk8, hcl, hge, hsj, c1, c2, hsm, hnl]; (repeat (simp -dsimp (disch := (first | omega | assumption | (refine Bool.eq_false_iff.1 ?_; assumption))) only [wrap_in, if_pos, if_neg]; (try simp -dsimp [hlt, hgs, hk8, hcl, hge, hsj, c1, c2, hsm, hnl]))))) | ((first | refine guardP_of (fun hc => ?_) (fun hc => ?_) | refine st_cond rfl (fun hc => ?_) (fun hc => ?_)) <;> (try simp only [lqA, lqB, lqC, lqD, lqE, lqF, lqG, lqH, lqI, lqJ, lqK, lqL, lqM, lqN, lqO] at hc) <;> (try (exfalso; first | omega | exact bool_tf hc (by assumption) | exact bool_ft hc (by assumption) | exact absurd (by assumption) hc)) <;> (first | with_reducible show STri _ _ _ _ _ _ | (simp -dsimp [hlt, hgs, hk8, hcl, hge, hsj, c1, c2, hsm, hnl, hc]; (repeat (simp -dsimp (disch := (first | omega | assumption | (refine Bool.eq_false_iff.1 ?_; assumption))) only [wrap_in, if_pos, if_neg]; (try simp -dsimp [hlt, hgs, hk8, hcl, hge, hsj, c1, c2, hsm, hnl, hc]))))))))
          all_goals exact ⟨hlt, by simp, by simp, by simp [hnx]⟩
      · rw [if_neg (fun h => c1 h.2)] at hch
        have hcn := hskip hch
        (repeat' (first | ((first | with_reducible refine st_skip ?_ | with_reducible refine st_exit ?_); (try simp only [seqQ, blockQ, loopQ, forQ, whileQ, reduceIte, Nat.reduceEqDiff])) | (with_reducible refine st_ret ?_; ((try simp only [seqQ, blockQ, loopQ, forQ, whileQ]); first | (with_reducible refine retM_ret ?_) | refine retQ_ret ?_; simp [hlt, hgs, hk8, hcl, hge, hsj, c1])) | refine st_seq ?_ | refine st_block ?_ | ((with_reducible show (STri _ _ _ _ _) ∧ (STri _ _ _ _ _)); refine And.intro ?_ ?_) | ((first | refine st_reg ?_ | refine buildP_own ?_ | refine appP_own ?_) <;> (simp -dsimp [hlt, hgs, hk8, hcl, hge, hsj, c1]; (repeat (simp -dsimp (disch := (first | omega | assumption | (refine Bool.eq_false_iff.1 ?_; assumption))) only [wrap_in, if_pos, if_neg]; (try simp -dsimp [hlt, hgs, hk8, hcl, hge, hsj, c1]))))) | ((first | refine guardP_of (fun hc => ?_) (fun hc => ?_) | refine st_cond rfl (fun hc => ?_) (fun hc => ?_)) <;> (try simp only [lqA, lqB, lqC, lqD, lqE, lqF, lqG, lqH, lqI, lqJ, lqK, lqL, lqM, lqN, lqO] at hc) <;> (try (exfalso; first | omega | exact bool_tf hc (by assumption) | exact bool_ft hc (by assumption) | exact absurd (by assumption) hc)) <;> (first | with_reducible show STri _ _ _ _ _ _ | (simp -dsimp [hlt, hgs, hk8, hcl, hge, hsj, c1, hc]; (repeat (simp -dsimp (disch := (first | omega | assumption | (refine Bool.eq_false_iff.1 ?_; assumption))) only [wrap_in, if_pos, if_neg]; (try simp -dsimp [hlt, hgs, hk8, hcl, hge, hsj, c1, hc]))))))))
        all_goals exact ⟨hlt, by simp, by simp, by simp [hnx, hcn]⟩
    · rw [if_neg (fun h => hsj h.1)] at hch
      have hcn := hskip hch
      (repeat' (first | ((first | with_reducible refine st_skip ?_ | with_reducible refine st_exit ?_); (try simp only [seqQ, blockQ, loopQ, forQ, whileQ, reduceIte, Nat.reduceEqDiff])) | (with_reducible refine st_ret ?_; ((try simp only [seqQ, blockQ, loopQ, forQ, whileQ]); first | (with_reducible refine retM_ret ?_) | refine retQ_ret ?_; simp [hlt, hcl, hge, hsj])) | refine st_seq ?_ | refine st_block ?_ | ((with_reducible show (STri _ _ _ _ _) ∧ (STri _ _ _ _ _)); refine And.intro ?_ ?_) | ((first | refine st_reg ?_ | refine buildP_own ?_ | refine appP_own ?_) <;> (simp -dsimp [hlt, hcl, hge, hsj]; (repeat (simp -dsimp (disch := (first | omega | assumption | (refine Bool.eq_false_iff.1 ?_; assumption))) only [wrap_in, if_pos, if_neg]; (try simp -dsimp [hlt, hcl, hge, hsj]))))) | ((first | refine guardP_of (fun hc => ?_) (fun hc => ?_) | refine st_cond rfl (fun hc => ?_) (fun hc => ?_)) <;> (try simp only [lqA, lqB, lqC, lqD, lqE, lqF, lqG, lqH, lqI, lqJ, lqK, lqL, lqM, lqN, lqO] at hc) <;> (try (exfalso; first | omega | exact bool_tf hc (by assumption) | exact bool_ft hc (by assumption) | exact absurd (by assumption) hc)) <;> (first | with_reducible show STri _ _ _ _ _ _ | (simp -dsimp [hlt, hcl, hge, hsj, hc]; (repeat (simp -dsimp (disch := (first | omega | assumption | (refine Bool.eq_false_iff.1 ?_; assumption))) only [wrap_in, if_pos, if_neg]; (try simp -dsimp [hlt, hcl, hge, hsj, hc]))))))))
      all_goals exact ⟨hlt, by simp, by simp, by simp [hnx, hcn]⟩
  · have hkk : k = l0.length := by omega
    subst hkk
    rw [chgTo_all, hl]
    by_cases h5 : N ≤ 10000
    case neg =>
      have hff : ¬ fitB b = true := fun h => by rw [hsf.2 h] at h5; omega
      rw [if_neg hff] at p2'
      rw [if_neg h5, if_neg h5] at p1
      (repeat' (first | ((with_reducible show STri _ k66_64 _ _ _); refine st_shut1 31 rfl (by simp [dropOK, dropK]) (by simp [ClosO, ownS, dropK, SV.outD, hll]) (by simp [ShutH, ShutB, ownL, ownS, dropK, SV.outD, outDL, Blk.outD, hll]) ?_; simp) | ((first | with_reducible refine st_skip ?_ | with_reducible refine st_exit ?_); (try simp only [seqQ, blockQ, loopQ, forQ, whileQ, reduceIte, Nat.reduceEqDiff])) | (with_reducible refine st_ret ?_; ((try simp only [seqQ, blockQ, loopQ, forQ, whileQ]); first | (with_reducible refine retM_ret ?_) | refine retQ_ret ?_; simp [hll])) | refine st_seq ?_ | refine st_block ?_ | ((with_reducible show (STri _ _ _ _ _) ∧ (STri _ _ _ _ _)); refine And.intro ?_ ?_) | ((first | refine st_reg ?_ | refine buildP_own ?_ | refine appP_own ?_ | ((with_reducible show callGP _ _ _ _ _ _ _); refine callG_b (kn) ?hcc ?hpp ?_; (case hcc => (first | rfl | (simp <;> fail))); (case hpp => (first | rfl | (simp <;> fail)))) | ((with_reducible show callGP _ _ _ _ _ _ _); refine callG_b (c14) ?hcc ?hpp ?_; (case hcc => (first | rfl | (simp <;> fail))); (case hpp => (first | rfl | (simp <;> fail)))) | ((with_reducible show callGP _ _ _ _ _ _ _); refine callG_b (c15) ?hcc ?hpp ?_; (case hcc => (first | rfl | (simp <;> fail))); (case hpp => (first | rfl | (simp <;> fail)))) | ((with_reducible show callGP _ _ _ _ _ _ _); refine callG_b (p1) ?hcc ?hpp ?_; (case hcc => (first | rfl | (simp <;> fail))); (case hpp => (first | rfl | (simp <;> fail)))) | ((with_reducible show callGP _ _ _ _ _ _ _); refine callG_b (p2') ?hcc ?hpp ?_; (case hcc => (first | rfl | (simp <;> fail))); (case hpp => (first | rfl | (simp <;> fail)))) | refine callP_b (kn) rfl ?_ | refine callP_b (c14) rfl ?_ | refine callP_b (c15) rfl ?_ | refine callP_b (p1) rfl ?_ | refine callP_b (p2') rfl ?_) <;> (simp -dsimp [hll]; (repeat (simp -dsimp (disch := (first | omega | assumption | (refine Bool.eq_false_iff.1 ?_; assumption))) only [wrap_in, if_pos, if_neg]; (try simp -dsimp [hll]))))) | ((first | refine guardP_of (fun hc => ?_) (fun hc => ?_) | refine st_cond rfl (fun hc => ?_) (fun hc => ?_)) <;> (try simp only [lqA, lqB, lqC, lqD, lqE, lqF, lqG, lqH, lqI, lqJ, lqK, lqL, lqM, lqN, lqO] at hc) <;> (try (exfalso; first | omega | exact bool_tf hc (by assumption) | exact bool_ft hc (by assumption) | exact absurd (by assumption) hc)) <;> (first | with_reducible show STri _ _ _ _ _ _ | (simp -dsimp [hll, hc]; (repeat (simp -dsimp (disch := (first | omega | assumption | (refine Bool.eq_false_iff.1 ?_; assumption))) only [wrap_in, if_pos, if_neg]; (try simp -dsimp [hll, hc]))))))))
      all_goals exact .refl _
    rw [if_pos h5, if_pos h5] at p1
    have hmid : ∀ z : SV, STri (cfF Try.prog fresh 186) k66_60 [(7, .c (slSr W)), (8, .ptr 8 0), (9, .c (slN l)), (10, .c (I j)), (12, .c (I N)), (118, z)] [(4, .box 82 ((rowSh s).map .c)), (8, .box 25 [.c (I (y - 60)), .c (I (y + 60))])] (retQ rs_turretlaw08_WireWider (B true)) := by
      intro z
      (repeat' (first | ((first | with_reducible refine st_skip ?_ | with_reducible refine st_exit ?_); (try simp only [seqQ, blockQ, loopQ, forQ, whileQ, reduceIte, Nat.reduceEqDiff])) | (with_reducible refine st_ret ?_; ((try simp only [seqQ, blockQ, loopQ, forQ, whileQ]); first | (with_reducible refine retM_ret ?_) | refine retQ_ret ?_; simp)) | refine st_seq ?_ | refine st_block ?_ | ((with_reducible show (STri _ _ _ _ _) ∧ (STri _ _ _ _ _)); refine And.intro ?_ ?_) | ((first | refine st_reg ?_ | refine buildP_own ?_ | refine appP_own ?_) <;> (simp -dsimp; (repeat (simp -dsimp (disch := (first | omega | assumption | (refine Bool.eq_false_iff.1 ?_; assumption))) only [wrap_in, if_pos, if_neg]; (try simp -dsimp))))) | ((first | refine guardP_of (fun hc => ?_) (fun hc => ?_) | refine st_cond rfl (fun hc => ?_) (fun hc => ?_)) <;> (try simp only [lqA, lqB, lqC, lqD, lqE, lqF, lqG, lqH, lqI, lqJ, lqK, lqL, lqM, lqN, lqO] at hc) <;> (try (exfalso; first | omega | exact bool_tf hc (by assumption) | exact bool_ft hc (by assumption) | exact absurd (by assumption) hc)) <;> (first | with_reducible show STri _ _ _ _ _ _ | (simp -dsimp [hc]; (repeat (simp -dsimp (disch := (first | omega | assumption | (refine Bool.eq_false_iff.1 ?_; assumption))) only [wrap_in, if_pos, if_neg]; (try simp -dsimp [hc]))))))))
      refine st_for [8] (rndW N) (fun k T H => T = [(7, .c (slSr W)), (8, .ptr 8 0), (9, .c (slN l)), (10, .c (I j)), (12, .c (I N)), (16, .c (I k))] ∧ H = [(8, .box 25 [.c (I (y - 60)), .c (I (y + 60))])]) (by simp) ⟨by simp, by simp⟩ ?_
      rintro k T H hk ⟨rfl, rfl⟩
      by_cases hlt : k < rndW N
      · have hk2 : (k : Int) < 2 := by unfold rndW at hlt; split at hlt <;> omega
        have hkN : (k : Int) ≤ N := by unfold rndW at hlt; split at hlt <;> omega
        obtain ⟨d, hd⟩ : ∃ d : Nat, N - k = d := ⟨_, rfl⟩
        have ed1 : sj.elo - (d : Int) = sj.elo - N + k := by omega
        have ed2 : sj.ehi + (d : Int) = sj.ehi + N - k := by omega
        have hst := hset d
        have hwl2 := hwwl d
        have hwg : ∀ h : j < (ww d).length, (ww d)[j]'h = wideS sj d := fun h => hwwg d h
        have hwe : (wideS sj d).elo = sj.elo - N + k := ed1
        have hwh : (wideS sj d).ehi = sj.ehi + N - k := ed2
        have wd := wide d
        rw [ed1, ed2] at hst wd
        have hval : fitB (wideB b j (d : Int)) = decide (k = 0) := by
          by_cases h0 : k = 0
          · have : d = N := by omega
            rw [this, m3 (by omega)]; simp [h0]
          · rw [m2 d (by omega)]; simp [h0]
        rw [hval] at wd
        generalize wideS sj d = wd' at *
        generalize ww d = wl at *
        have lsp := lSpan (sj.elo - N + k) (sj.ehi + N - k)
        by_cases c1 : sj.elo - N + k < -3600
        · (repeat' (first | ((first | with_reducible refine st_skip ?_ | with_reducible refine st_exit ?_); (try simp only [seqQ, blockQ, loopQ, forQ, whileQ, reduceIte, Nat.reduceEqDiff])) | (with_reducible refine st_ret ?_; ((try simp only [seqQ, blockQ, loopQ, forQ, whileQ]); first | (with_reducible refine retM_ret ?_) | refine retQ_ret ?_; simp [hk2, hkN, hjw, hgw, hst, hwl2, hwg, hwe, hwh, c1])) | refine st_seq ?_ | refine st_block ?_ | ((with_reducible show (STri _ _ _ _ _) ∧ (STri _ _ _ _ _)); refine And.intro ?_ ?_) | ((first | refine st_reg ?_ | refine buildP_own ?_ | refine appP_own ?_ | ((with_reducible show callGP _ _ _ _ _ _ _); refine callG_n (f14) ?hcc ?hpp ?hnn ?_; (case hcc => (first | rfl | (simp <;> fail) | (simp [] <;> fail))); (case hpp => (first | rfl | (simp <;> fail) | (simp [] <;> fail))); (case hnn => (first | rfl | (simp <;> fail) | (simp [] <;> fail)))) | ((with_reducible show callGP _ _ _ _ _ _ _); refine callG_b (lsp) ?hcc ?hpp ?_; (case hcc => (first | rfl | (simp <;> fail))); (case hpp => (first | rfl | (simp <;> fail)))) | ((with_reducible show callGP _ _ _ _ _ _ _); refine callG_b (kn) ?hcc ?hpp ?_; (case hcc => (first | rfl | (simp <;> fail))); (case hpp => (first | rfl | (simp <;> fail)))) | refine callP_b (lsp) rfl ?_ | refine callP_b (kn) rfl ?_) <;> (simp -dsimp [hk2, hkN, hjw, hgw, hst, hwl2, hwg, hwe, hwh, c1]; (repeat (simp -dsimp (disch := (first | omega | assumption | (refine Bool.eq_false_iff.1 ?_; assumption))) only [wrap_in, if_pos, if_neg]; (try simp -dsimp [hk2, hkN, hjw, hgw, hst, hwl2, hwg, hwe, hwh, c1]))))) | ((first | refine guardP_of (fun hc => ?_) (fun hc => ?_) | refine st_cond rfl (fun hc => ?_) (fun hc => ?_)) <;> (try simp only [lqA, lqB, lqC, lqD, lqE, lqF, lqG, lqH, lqI, lqJ, lqK, lqL, lqM, lqN, lqO] at hc) <;> (try (exfalso; first | omega | exact bool_tf hc (by assumption) | exact bool_ft hc (by assumption) | exact absurd (by assumption) hc)) <;> (first | with_reducible show STri _ _ _ _ _ _ | (simp -dsimp [hk2, hkN, hjw, hgw, hst, hwl2, hwg, hwe, hwh, c1, hc]; (repeat (simp -dsimp (disch := (first | omega | assumption | (refine Bool.eq_false_iff.1 ?_; assumption))) only [wrap_in, if_pos, if_neg]; (try simp -dsimp [hk2, hkN, hjw, hgw, hst, hwl2, hwg, hwe, hwh, c1, hc]))))))))
          all_goals exact .refl _
        · by_cases c2 : 3600 < sj.ehi + N - k
          · (repeat' (first | ((first | with_reducible refine st_skip ?_ | with_reducible refine st_exit ?_); (try simp only [seqQ, blockQ, loopQ, forQ, whileQ, reduceIte, Nat.reduceEqDiff])) | (with_reducible refine st_ret ?_; ((try simp only [seqQ, blockQ, loopQ, forQ, whileQ]); first | (with_reducible refine retM_ret ?_) | refine retQ_ret ?_; simp [hk2, hkN, hjw, hgw, hst, hwl2, hwg, hwe, hwh, c1, c2])) | refine st_seq ?_ | refine st_block ?_ | ((with_reducible show (STri _ _ _ _ _) ∧ (STri _ _ _ _ _)); refine And.intro ?_ ?_) | ((first | refine st_reg ?_ | refine buildP_own ?_ | refine appP_own ?_ | ((with_reducible show callGP _ _ _ _ _ _ _); refine callG_n (f14) ?hcc ?hpp ?hnn ?_; (case hcc => (first | rfl | (simp <;> fail) | (simp [] <;> fail))); (case hpp => (first | rfl | (simp <;> fail) | (simp [] <;> fail))); (case hnn => (first | rfl | (simp <;> fail) | (simp [] <;> fail)))) | ((with_reducible show callGP _ _ _ _ _ _ _); refine callG_b (lsp) ?hcc ?hpp ?_; (case hcc => (first | rfl | (simp <;> fail))); (case hpp => (first | rfl | (simp <;> fail)))) | ((with_reducible show callGP _ _ _ _ _ _ _); refine callG_b (kn) ?hcc ?hpp ?_; (case hcc => (first | rfl | (simp <;> fail))); (case hpp => (first | rfl | (simp <;> fail)))) | refine callP_b (lsp) rfl ?_ | refine callP_b (kn) rfl ?_) <;> (simp -dsimp [hk2, hkN, hjw, hgw, hst, hwl2, hwg, hwe, hwh, c1, c2]; (repeat (simp -dsimp (disch := (first | omega | assumption | (refine Bool.eq_false_iff.1 ?_; assumption))) only [wrap_in, if_pos, if_neg]; (try simp -dsimp [hk2, hkN, hjw, hgw, hst, hwl2, hwg, hwe, hwh, c1, c2]))))) | ((first | refine guardP_of (fun hc => ?_) (fun hc => ?_) | refine st_cond rfl (fun hc => ?_) (fun hc => ?_)) <;> (try simp only [lqA, lqB, lqC, lqD, lqE, lqF, lqG, lqH, lqI, lqJ, lqK, lqL, lqM, lqN, lqO] at hc) <;> (try (exfalso; first | omega | exact bool_tf hc (by assumption) | exact bool_ft hc (by assumption) | exact absurd (by assumption) hc)) <;> (first | with_reducible show STri _ _ _ _ _ _ | (simp -dsimp [hk2, hkN, hjw, hgw, hst, hwl2, hwg, hwe, hwh, c1, c2, hc]; (repeat (simp -dsimp (disch := (first | omega | assumption | (refine Bool.eq_false_iff.1 ?_; assumption))) only [wrap_in, if_pos, if_neg]; (try simp -dsimp [hk2, hkN, hjw, hgw, hst, hwl2, hwg, hwe, hwh, c1, c2, hc]))))))))
            all_goals exact .refl _
          · obtain ⟨r1, q⟩ := wd (by omega) (by omega)
            by_cases h0 : k = 0
            · rw [if_pos (by simpa using h0)] at q
              subst h0
              have z1 : sj.elo - (N : Int) + ((0 : Nat) : Int) = sj.elo - N := by omega
              have z2 : sj.ehi + (N : Int) - ((0 : Nat) : Int) = sj.ehi + N := by omega
              rw [z1, z2] at hst lsp
              rw [z1] at hwe c1
              rw [z2] at hwh c2
              (repeat' (first | ((with_reducible show STri _ k66_47 _ _ _); refine st_shut1 129 rfl (by simp [dropOK, dropK]) (by simp [ClosO, ownS, dropK, SV.outD, hwl2]) (by simp [ShutH, ShutB, ownL, ownS, dropK, SV.outD, outDL, Blk.outD, hwl2]) ?_; simp) | ((first | with_reducible refine st_skip ?_ | with_reducible refine st_exit ?_); (try simp only [seqQ, blockQ, loopQ, forQ, whileQ, reduceIte, Nat.reduceEqDiff])) | (with_reducible refine st_ret ?_; ((try simp only [seqQ, blockQ, loopQ, forQ, whileQ]); first | (with_reducible refine retM_ret ?_) | refine retQ_ret ?_; simp [hjw, hgw, hst, hwl2, hwg, hwe, hwh, c1, c2])) | refine st_seq ?_ | refine st_block ?_ | ((with_reducible show (STri _ _ _ _ _) ∧ (STri _ _ _ _ _)); refine And.intro ?_ ?_) | ((first | refine st_reg ?_ | refine buildP_own ?_ | refine appP_own ?_ | ((with_reducible show callGP _ _ _ _ _ _ _); refine callG_n (f14) ?hcc ?hpp ?hnn ?_; (case hcc => (first | rfl | (simp <;> fail) | (simp [] <;> fail))); (case hpp => (first | rfl | (simp <;> fail) | (simp [] <;> fail))); (case hnn => (first | rfl | (simp <;> fail) | (simp [] <;> fail)))) | ((with_reducible show callGP _ _ _ _ _ _ _); refine callG_b (lsp) ?hcc ?hpp ?_; (case hcc => (first | rfl | (simp <;> fail))); (case hpp => (first | rfl | (simp <;> fail)))) | ((with_reducible show callGP _ _ _ _ _ _ _); refine callG_b (kn) ?hcc ?hpp ?_; (case hcc => (first | rfl | (simp <;> fail))); (case hpp => (first | rfl | (simp <;> fail)))) | ((with_reducible show callGP _ _ _ _ _ _ _); refine callG_b (c15) ?hcc ?hpp ?_; (case hcc => (first | rfl | (simp <;> fail))); (case hpp => (first | rfl | (simp <;> fail)))) | ((with_reducible show callGP _ _ _ _ _ _ _); refine callG_b (q) ?hcc ?hpp ?_; (case hcc => (first | rfl | (simp <;> fail))); (case hpp => (first | rfl | (simp <;> fail)))) | refine callP_b (lsp) rfl ?_ | refine callP_b (kn) rfl ?_ | refine callP_b (c15) rfl ?_ | refine callP_b (q) rfl ?_) <;> (simp -dsimp [hjw, hgw, hst, hwl2, hwg, hwe, hwh, c1, c2]; (repeat (simp -dsimp (disch := (first | omega | assumption | (refine Bool.eq_false_iff.1 ?_; assumption))) only [wrap_in, if_pos, if_neg]; (try simp -dsimp [hjw, hgw, hst, hwl2, hwg, hwe, hwh, c1, c2]))))) | ((first | refine guardP_of (fun hc => ?_) (fun hc => ?_) | refine st_cond rfl (fun hc => ?_) (fun hc => ?_)) <;> (try simp only [lqA, lqB, lqC, lqD, lqE, lqF, lqG, lqH, lqI, lqJ, lqK, lqL, lqM, lqN, lqO] at hc) <;> (try (exfalso; first | omega | exact bool_tf hc (by assumption) | exact bool_ft hc (by assumption) | exact absurd (by assumption) hc)) <;> (first | with_reducible show STri _ _ _ _ _ _ | (simp -dsimp [hjw, hgw, hst, hwl2, hwg, hwe, hwh, c1, c2, hc]; (repeat (simp -dsimp (disch := (first | omega | assumption | (refine Bool.eq_false_iff.1 ?_; assumption))) only [wrap_in, if_pos, if_neg]; (try simp -dsimp [hjw, hgw, hst, hwl2, hwg, hwe, hwh, c1, c2, hc]))))))))
              all_goals exact ⟨hlt, by simp, by simp, by simp⟩
            · rw [if_neg (by simpa using h0)] at q
              have h0i : ¬ (k : Int) = 0 := by omega
              (repeat' (first | ((with_reducible show STri _ k66_47 _ _ _); refine st_shut1 129 rfl (by simp [dropOK, dropK]) (by simp [ClosO, ownS, dropK, SV.outD, hwl2]) (by simp [ShutH, ShutB, ownL, ownS, dropK, SV.outD, outDL, Blk.outD, hwl2]) ?_; simp) | ((first | with_reducible refine st_skip ?_ | with_reducible refine st_exit ?_); (try simp only [seqQ, blockQ, loopQ, forQ, whileQ, reduceIte, Nat.reduceEqDiff])) | (with_reducible refine st_ret ?_; ((try simp only [seqQ, blockQ, loopQ, forQ, whileQ]); first | (with_reducible refine retM_ret ?_) | refine retQ_ret ?_; simp [hk2, hkN, hjw, hgw, hst, hwl2, hwg, hwe, hwh, c1, c2, h0i])) | refine st_seq ?_ | refine st_block ?_ | ((with_reducible show (STri _ _ _ _ _) ∧ (STri _ _ _ _ _)); refine And.intro ?_ ?_) | ((first | refine st_reg ?_ | refine buildP_own ?_ | refine appP_own ?_ | ((with_reducible show callGP _ _ _ _ _ _ _); refine callG_n (f14) ?hcc ?hpp ?hnn ?_; (case hcc => (first | rfl | (simp <;> fail) | (simp [] <;> fail))); (case hpp => (first | rfl | (simp <;> fail) | (simp [] <;> fail))); (case hnn => (first | rfl | (simp <;> fail) | (simp [] <;> fail)))) | ((with_reducible show callGP _ _ _ _ _ _ _); refine callG_b (lsp) ?hcc ?hpp ?_; (case hcc => (first | rfl | (simp <;> fail))); (case hpp => (first | rfl | (simp <;> fail)))) | ((with_reducible show callGP _ _ _ _ _ _ _); refine callG_b (kn) ?hcc ?hpp ?_; (case hcc => (first | rfl | (simp <;> fail))); (case hpp => (first | rfl | (simp <;> fail)))) | ((with_reducible show callGP _ _ _ _ _ _ _); refine callG_b (c15) ?hcc ?hpp ?_; (case hcc => (first | rfl | (simp <;> fail))); (case hpp => (first | rfl | (simp <;> fail)))) | ((with_reducible show callGP _ _ _ _ _ _ _); refine callG_b (q) ?hcc ?hpp ?_; (case hcc => (first | rfl | (simp <;> fail))); (case hpp => (first | rfl | (simp <;> fail)))) | refine callP_b (lsp) rfl ?_ | refine callP_b (kn) rfl ?_ | refine callP_b (c15) rfl ?_ | refine callP_b (q) rfl ?_) <;> (simp -dsimp [hk2, hkN, hjw, hgw, hst, hwl2, hwg, hwe, hwh, c1, c2, h0i]; (repeat (simp -dsimp (disch := (first | omega | assumption | (refine Bool.eq_false_iff.1 ?_; assumption))) only [wrap_in, if_pos, if_neg]; (try simp -dsimp [hk2, hkN, hjw, hgw, hst, hwl2, hwg, hwe, hwh, c1, c2, h0i]))))) | ((first | refine guardP_of (fun hc => ?_) (fun hc => ?_) | refine st_cond rfl (fun hc => ?_) (fun hc => ?_)) <;> (try simp only [lqA, lqB, lqC, lqD, lqE, lqF, lqG, lqH, lqI, lqJ, lqK, lqL, lqM, lqN, lqO] at hc) <;> (try (exfalso; first | omega | exact bool_tf hc (by assumption) | exact bool_ft hc (by assumption) | exact absurd (by assumption) hc)) <;> (first | with_reducible show STri _ _ _ _ _ _ | (simp -dsimp [hk2, hkN, hjw, hgw, hst, hwl2, hwg, hwe, hwh, c1, c2, h0i, hc]; (repeat (simp -dsimp (disch := (first | omega | assumption | (refine Bool.eq_false_iff.1 ?_; assumption))) only [wrap_in, if_pos, if_neg]; (try simp -dsimp [hk2, hkN, hjw, hgw, hst, hwl2, hwg, hwe, hwh, c1, c2, h0i, hc]))))))))
              all_goals exact ⟨hlt, by simp, by simp, by simp⟩
      · have hkn : k = rndW N := by omega
        by_cases hN0 : N = 0
        · have hk1 : k = 1 := by rw [hkn]; unfold rndW; rw [if_pos hN0]
          subst hk1
          have h1 : ¬ (1 : Int) ≤ N := by omega
          (repeat' (first | ((first | with_reducible refine st_skip ?_ | with_reducible refine st_exit ?_); (try simp only [seqQ, blockQ, loopQ, forQ, whileQ, reduceIte, Nat.reduceEqDiff])) | (with_reducible refine st_ret ?_; ((try simp only [seqQ, blockQ, loopQ, forQ, whileQ]); first | (with_reducible refine retM_ret ?_) | refine retQ_ret ?_; simp [h1])) | refine st_seq ?_ | refine st_block ?_ | ((with_reducible show (STri _ _ _ _ _) ∧ (STri _ _ _ _ _)); refine And.intro ?_ ?_) | ((first | refine st_reg ?_ | refine buildP_own ?_ | refine appP_own ?_ | refine callP_b (kn) rfl ?_) <;> (simp -dsimp [h1]; (repeat (simp -dsimp (disch := (first | omega | assumption | (refine Bool.eq_false_iff.1 ?_; assumption))) only [wrap_in, if_pos, if_neg]; (try simp -dsimp [h1]))))) | ((first | refine guardP_of (fun hc => ?_) (fun hc => ?_) | refine st_cond rfl (fun hc => ?_) (fun hc => ?_)) <;> (try simp only [lqA, lqB, lqC, lqD, lqE, lqF, lqG, lqH, lqI, lqJ, lqK, lqL, lqM, lqN, lqO] at hc) <;> (try (exfalso; first | omega | exact bool_tf hc (by assumption) | exact bool_ft hc (by assumption) | exact absurd (by assumption) hc)) <;> (first | with_reducible show STri _ _ _ _ _ _ | (simp -dsimp [h1, hc]; (repeat (simp -dsimp (disch := (first | omega | assumption | (refine Bool.eq_false_iff.1 ?_; assumption))) only [wrap_in, if_pos, if_neg]; (try simp -dsimp [h1, hc]))))))))
          all_goals exact .refl _
        · have hk1 : k = 2 := by rw [hkn]; unfold rndW; rw [if_neg hN0]
          subst hk1
          (repeat' (first | ((first | with_reducible refine st_skip ?_ | with_reducible refine st_exit ?_); (try simp only [seqQ, blockQ, loopQ, forQ, whileQ, reduceIte, Nat.reduceEqDiff])) | (with_reducible refine st_ret ?_; ((try simp only [seqQ, blockQ, loopQ, forQ, whileQ]); first | (with_reducible refine retM_ret ?_) | refine retQ_ret ?_; simp)) | refine st_seq ?_ | refine st_block ?_ | ((with_reducible show (STri _ _ _ _ _) ∧ (STri _ _ _ _ _)); refine And.intro ?_ ?_) | ((first | refine st_reg ?_ | refine buildP_own ?_ | refine appP_own ?_ | refine callP_b (kn) rfl ?_) <;> (simp -dsimp; (repeat (simp -dsimp (disch := (first | omega | assumption | (refine Bool.eq_false_iff.1 ?_; assumption))) only [wrap_in, if_pos, if_neg]; (try simp -dsimp))))) | ((first | refine guardP_of (fun hc => ?_) (fun hc => ?_) | refine st_cond rfl (fun hc => ?_) (fun hc => ?_)) <;> (try simp only [lqA, lqB, lqC, lqD, lqE, lqF, lqG, lqH, lqI, lqJ, lqK, lqL, lqM, lqN, lqO] at hc) <;> (try (exfalso; first | omega | exact bool_tf hc (by assumption) | exact bool_ft hc (by assumption) | exact absurd (by assumption) hc)) <;> (first | with_reducible show STri _ _ _ _ _ _ | (simp -dsimp [hc]; (repeat (simp -dsimp (disch := (first | omega | assumption | (refine Bool.eq_false_iff.1 ?_; assumption))) only [wrap_in, if_pos, if_neg]; (try simp -dsimp [hc]))))))))
          all_goals exact .refl _
    by_cases hN0 : N = 0
    · have hff : fitB b = true := hsf.1 hN0
      rw [if_pos hff] at p2'
      have hN1 : ¬ (N : Int) < 0 := by omega
      have hN2 : ¬ (10000 : Int) < N := by omega
      have hN3 : (N : Int) = 0 := by omega
      have hmid0 := hmid
      rw [hN3] at hmid0
      (repeat' (first | ((with_reducible show STri _ k66_60 _ _ _); exact hmid0 _) | ((with_reducible show STri _ k66_64 _ _ _); refine st_shut1 31 rfl (by simp [dropOK, dropK]) (by simp [ClosO, ownS, dropK, SV.outD, hll]) (by simp [ShutH, ShutB, ownL, ownS, dropK, SV.outD, outDL, Blk.outD, hll]) ?_; simp) | ((first | with_reducible refine st_skip ?_ | with_reducible refine st_exit ?_); (try simp only [seqQ, blockQ, loopQ, forQ, whileQ, reduceIte, Nat.reduceEqDiff])) | (with_reducible refine st_ret ?_; ((try simp only [seqQ, blockQ, loopQ, forQ, whileQ]); first | (with_reducible refine retM_ret ?_) | refine retQ_ret ?_; simp [hll, hN1, hN2, hN3])) | refine st_seq ?_ | refine st_block ?_ | ((with_reducible show (STri _ _ _ _ _) ∧ (STri _ _ _ _ _)); refine And.intro ?_ ?_) | ((first | refine st_reg ?_ | refine buildP_own ?_ | refine appP_own ?_ | ((with_reducible show callGP _ _ _ _ _ _ _); refine callG_b (kn) ?hcc ?hpp ?_; (case hcc => (first | rfl | (simp <;> fail))); (case hpp => (first | rfl | (simp <;> fail)))) | ((with_reducible show callGP _ _ _ _ _ _ _); refine callG_b (c14) ?hcc ?hpp ?_; (case hcc => (first | rfl | (simp <;> fail))); (case hpp => (first | rfl | (simp <;> fail)))) | ((with_reducible show callGP _ _ _ _ _ _ _); refine callG_b (c15) ?hcc ?hpp ?_; (case hcc => (first | rfl | (simp <;> fail))); (case hpp => (first | rfl | (simp <;> fail)))) | ((with_reducible show callGP _ _ _ _ _ _ _); refine callG_b (p1) ?hcc ?hpp ?_; (case hcc => (first | rfl | (simp <;> fail))); (case hpp => (first | rfl | (simp <;> fail)))) | ((with_reducible show callGP _ _ _ _ _ _ _); refine callG_b (p2') ?hcc ?hpp ?_; (case hcc => (first | rfl | (simp <;> fail))); (case hpp => (first | rfl | (simp <;> fail)))) | refine callP_b (kn) rfl ?_ | refine callP_b (c14) rfl ?_ | refine callP_b (c15) rfl ?_ | refine callP_b (p1) rfl ?_ | refine callP_b (p2') rfl ?_) <;> (simp -dsimp [hll, hN1, hN2, hN3]; (repeat (simp -dsimp (disch := (first | omega | assumption | (refine Bool.eq_false_iff.1 ?_; assumption))) only [wrap_in, if_pos, if_neg]; (try simp -dsimp [hll, hN1, hN2, hN3]))))) | ((first | refine guardP_of (fun hc => ?_) (fun hc => ?_) | refine st_cond rfl (fun hc => ?_) (fun hc => ?_)) <;> (try simp only [lqA, lqB, lqC, lqD, lqE, lqF, lqG, lqH, lqI, lqJ, lqK, lqL, lqM, lqN, lqO] at hc) <;> (try (exfalso; first | omega | exact bool_tf hc (by assumption) | exact bool_ft hc (by assumption) | exact absurd (by assumption) hc)) <;> (first | with_reducible show STri _ _ _ _ _ _ | (simp -dsimp [hll, hN1, hN2, hN3, hc]; (repeat (simp -dsimp (disch := (first | omega | assumption | (refine Bool.eq_false_iff.1 ?_; assumption))) only [wrap_in, if_pos, if_neg]; (try simp -dsimp [hll, hN1, hN2, hN3, hc]))))))))
      all_goals exact .refl _
    · have hff : ¬ fitB b = true := fun h => hN0 (hsf.2 h)
      rw [if_neg hff] at p2'
      have hN1 : ¬ (N : Int) < 0 := by omega
      have hN2 : ¬ (10000 : Int) < N := by omega
      have hN3 : ¬ (N : Int) = 0 := by omega
      (repeat' (first | ((with_reducible show STri _ k66_60 _ _ _); exact hmid _) | ((with_reducible show STri _ k66_64 _ _ _); refine st_shut1 31 rfl (by simp [dropOK, dropK]) (by simp [ClosO, ownS, dropK, SV.outD, hll]) (by simp [ShutH, ShutB, ownL, ownS, dropK, SV.outD, outDL, Blk.outD, hll]) ?_; simp) | ((first | with_reducible refine st_skip ?_ | with_reducible refine st_exit ?_); (try simp only [seqQ, blockQ, loopQ, forQ, whileQ, reduceIte, Nat.reduceEqDiff])) | (with_reducible refine st_ret ?_; ((try simp only [seqQ, blockQ, loopQ, forQ, whileQ]); first | (with_reducible refine retM_ret ?_) | refine retQ_ret ?_; simp [hll, hN1, hN2, hN3])) | refine st_seq ?_ | refine st_block ?_ | ((with_reducible show (STri _ _ _ _ _) ∧ (STri _ _ _ _ _)); refine And.intro ?_ ?_) | ((first | refine st_reg ?_ | refine buildP_own ?_ | refine appP_own ?_ | ((with_reducible show callGP _ _ _ _ _ _ _); refine callG_b (kn) ?hcc ?hpp ?_; (case hcc => (first | rfl | (simp <;> fail))); (case hpp => (first | rfl | (simp <;> fail)))) | ((with_reducible show callGP _ _ _ _ _ _ _); refine callG_b (c14) ?hcc ?hpp ?_; (case hcc => (first | rfl | (simp <;> fail))); (case hpp => (first | rfl | (simp <;> fail)))) | ((with_reducible show callGP _ _ _ _ _ _ _); refine callG_b (c15) ?hcc ?hpp ?_; (case hcc => (first | rfl | (simp <;> fail))); (case hpp => (first | rfl | (simp <;> fail)))) | ((with_reducible show callGP _ _ _ _ _ _ _); refine callG_b (p1) ?hcc ?hpp ?_; (case hcc => (first | rfl | (simp <;> fail))); (case hpp => (first | rfl | (simp <;> fail)))) | ((with_reducible show callGP _ _ _ _ _ _ _); refine callG_b (p2') ?hcc ?hpp ?_; (case hcc => (first | rfl | (simp <;> fail))); (case hpp => (first | rfl | (simp <;> fail)))) | refine callP_b (kn) rfl ?_ | refine callP_b (c14) rfl ?_ | refine callP_b (c15) rfl ?_ | refine callP_b (p1) rfl ?_ | refine callP_b (p2') rfl ?_) <;> (simp -dsimp [hll, hN1, hN2, hN3]; (repeat (simp -dsimp (disch := (first | omega | assumption | (refine Bool.eq_false_iff.1 ?_; assumption))) only [wrap_in, if_pos, if_neg]; (try simp -dsimp [hll, hN1, hN2, hN3]))))) | ((first | refine guardP_of (fun hc => ?_) (fun hc => ?_) | refine st_cond rfl (fun hc => ?_) (fun hc => ?_)) <;> (try simp only [lqA, lqB, lqC, lqD, lqE, lqF, lqG, lqH, lqI, lqJ, lqK, lqL, lqM, lqN, lqO] at hc) <;> (try (exfalso; first | omega | exact bool_tf hc (by assumption) | exact bool_ft hc (by assumption) | exact absurd (by assumption) hc)) <;> (first | with_reducible show STri _ _ _ _ _ _ | (simp -dsimp [hll, hN1, hN2, hN3, hc]; (repeat (simp -dsimp (disch := (first | omega | assumption | (refine Bool.eq_false_iff.1 ?_; assumption))) only [wrap_in, if_pos, if_neg]; (try simp -dsimp [hll, hN1, hN2, hN3, hc]))))))))
      all_goals exact .refl _
end Go.Proofs.Ytakdmliblijgmaa
/- Wire's shifts opened. -/
namespace Go.Proofs.Ytakdmliblijgmaa
open Go.RowKit Go.ChangeShapes Go.WideShapes Go.ChangeAt
theorem Try.plain8 : plainB Try.prog 8 82 = true := by kernel_rfl
theorem ty_eight {d : Nat} {cs : List CV} (h : tyC Try.prog d 82 cs) : ∃ v, cs = rowSh v ∧ ShOk v := by
  obtain ⟨d, c1, r1, rfl, t1, c2, r2, rfl, t2, c3, r3, rfl, t3, c4, r4, rfl, t4, c5, r5, rfl, t5, c6, r6, rfl, t6, c7, r7, rfl, t7, c8, r8, rfl, t8, t9⟩ := tyC_array Try.underlying82 h
  obtain ⟨n1, rfl, h1⟩ := ty_u8 t1
  obtain ⟨n2, rfl, h2⟩ := ty_u8 t2
  obtain ⟨n3, rfl, h3⟩ := ty_u8 t3
  obtain ⟨n4, rfl, h4⟩ := ty_u8 t4
  obtain ⟨n5, rfl, h5⟩ := ty_u8 t5
  obtain ⟨n6, rfl, h6⟩ := ty_u8 t6
  obtain ⟨n7, rfl, h7⟩ := ty_u8 t7
  obtain ⟨n8, rfl, h8⟩ := ty_u8 t8
  have t9 : r8 = [] := t9
  subst t9
  exact ⟨⟨n1, n2, n3, n4, n5, n6, n7, n8⟩, rfl, h1, h2, h3, h4, h5, h6, h7, h8⟩
set_option maxRecDepth 100000 in
theorem open_shift {H : Type} {enc : TypeId × Value → H} {w : World} {spare : Nat → Bool} {held : Bool} {v : Value} {x : DataW H} {ps : List MemPlace} (h : DataW.Trod enc Try.prog w 0 spare held 82 v x ps) : ∃ c : Sh8, RepC w (fun _ => False) (cSh c) v ∧ ShOk c := by
  obtain ⟨n, h⟩ := h
  obtain ⟨cs, h1, h2⟩ := open_tyC Try.plain8 h
  obtain ⟨c, rfl, hm⟩ := ty_eight h1
  have hs : v.cells.size = 8 := by have := h2.1; simp at this; omega
  have hv := agg_cells (v := v) (by omega)
  refine ⟨c, ?_, hm⟩
  rw [hv]
  exact .agg _ _ (by simpa using hs) (fun i x u hx hu => h2.2 i x u hx (by simpa using hu))
end Go.Proofs.Ytakdmliblijgmaa
