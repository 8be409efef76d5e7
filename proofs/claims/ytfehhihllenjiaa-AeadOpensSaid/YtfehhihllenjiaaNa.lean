/- The document's one-time tags: rows of numbers. -/
import Derived.Test.YtfehhihllenjiaaTy
import Derived.Test.YtfehhihllenjiaaC5
import Derived.Test.YtfehhihllenjiaaSb
import Derived.Test.YtfehhihllenjiaaKe
set_option linter.all false
namespace Go.Proofs.Ytfehhihllenjiaa
open Go.Proofs
theorem carry_next1 {xs : List Nat} {j : Nat} (c : Nat) (hj : j < xs.length) : carryL (xs.drop j) c = ((c + xs.getD j 0) % 256) :: carryL (xs.drop (j + 1)) ((c + xs.getD j 0) / 256) := by
  rw [List.drop_eq_getElem_cons hj, carryL_cons, List.getD_eq_getElem?_getD, List.getElem?_eq_getElem hj]
  rfl
theorem carry_next2 {xs : List Nat} {j c : Nat} (hj : xs.length ≤ j) (hc : 0 < c) : carryL (xs.drop j) c = (c % 256) :: carryL (xs.drop (j + 1)) (c / 256) := by
  rw [List.drop_of_length_le hj, List.drop_of_length_le (by omega), carryL_nil, carryL_nil, digs_pos hc]
theorem carry_end {xs : List Nat} {j c : Nat} (h : carryL (xs.drop j) c = []) : xs.length ≤ j ∧ c = 0 := by
  have h1 : xs.drop j = [] := by
    cases hd : xs.drop j with
    | nil => rfl
    | cons x l => rw [hd, carryL_cons] at h; cases h
  refine ⟨by simpa using h1, ?_⟩
  rw [h1, carryL_nil] at h
  rcases Nat.eq_zero_or_pos c with h2 | h2
  · exact h2
  · rw [digs_pos h2] at h; cases h
attribute [local irreducible] evOps iter evD evF evC evLoad evStore evAlloc evIndexAddr evIndex evLenB evBox evBin evUn evConvert evExtract evSlice evAppend evCopy evNil evBuild evMakeSlice evBuildSlice evBuiltin Program.underlying
attribute [local irreducible] carryL
theorem inl104 : inlOf Try.prog 104 = true := by kernel_rfl
theorem iso104 : isoOf Try.prog 104 = false := by kernel_rfl
set_option maxRecDepth 20000 in
set_option maxHeartbeats 8000000 in
theorem at104 (q : Nat) (h : Heap) (v : Value) (xs : List Nat) (i : Nat) (hb : Iv h v xs) : fcall Try.prog (q + 1) (.func (.func 104) #[] #[]) [v, iv i] h = some (.ok (iv (xs.getD i 0)), h) := by
  have : ∃ v' h', fcall Try.prog (q + 1) (.func (.func 104) #[] #[]) [v, iv i] h = some (.ok v', h') ∧ v' = iv (xs.getD i 0) ∧ h' = h := by
    rw [fcall_inl inl104 iso104, evF_eq Try.func104 rfl]
    apply evEnd_of_W
    simp only [Try.f104]
    by_cases hi : i < xs.length
    · repeat (first
      | refine R_seq ?_ | refine R_region ?_ | refine R_nil ?_ | refine Q_seq ?_ | refine Q_norm ?_ | refine Q_seqr ?_ | refine Q_seqx ?_ | refine Q_bl ?_ | refine Q_blr ?_ | refine Q_blx ?_ | refine Q_blo rfl ?_ | refine R_block ?_ | refine R_skip ?_ | refine R_exit ?_ | refine R_ret ?_ | refine I_true ?_ | refine I_false ?_ | refine N_exit ?_ | refine N_ret ?_
      | ((first | apply R_op | apply R_op0)
         · ((repeat (first | simp (maxDischargeDepth := 9) only [RA, Nat.reduceEqDiff, Nat.reduceLT, Nat.reduceLeDiff, Nat.reduceAdd, Nat.reduceSub, Nat.reduceMul, Nat.reduceDiv, Nat.reduceMod, Nat.reducePow, Nat.reduceBEq, Nat.reduceGT, reduceIte, S111len hb, hi, S111ia hb hi, iv_ld Try.underlying3 inf3 hb fr_refl hi, T3, T111] | simp (disch := first | assumption | omega) only [RV, S111len hb, hi, S111ia hb hi, iv_ld Try.underlying3 inf3 hb fr_refl hi])) <;> rfl))
      | (apply R_cond
         · (simp only [RE, Nat.reduceEqDiff, Nat.reduceLT, Nat.reduceLeDiff, Nat.reduceBEq, reduceIte] <;> rfl))
      | (apply R_grd
         · (simp only [yieldedA, RY, Nat.reduceEqDiff, reduceIte] <;> rfl)))
      refine ⟨.inr rfl, _, rfl, ?_, rfl⟩
      (try simp only [List.map_cons, List.map_nil, RH, Nat.reduceAdd, Nat.reduceEqDiff, reduceIte, ev_tmp, ev_const, lit_iv, lit_w8, lit_w32, lit_w64, envOf0, envOf1, envOf2, envOf3, envOf4, envOf5, packR, T3, T111])
    · have hz : xs.getD i 0 = 0 := by rw [List.getD_eq_getElem?_getD, List.getElem?_eq_none (by omega)]; rfl
      repeat (first
        | refine R_seq ?_ | refine R_region ?_ | refine R_nil ?_ | refine Q_seq ?_ | refine Q_norm ?_ | refine Q_seqr ?_ | refine Q_seqx ?_ | refine Q_bl ?_ | refine Q_blr ?_ | refine Q_blx ?_ | refine Q_blo rfl ?_ | refine R_block ?_ | refine R_skip ?_ | refine R_exit ?_ | refine R_ret ?_ | refine I_true ?_ | refine I_false ?_ | refine N_exit ?_ | refine N_ret ?_
        | ((first | apply R_op | apply R_op0)
           · ((repeat (first | simp (maxDischargeDepth := 9) only [RA, Nat.reduceEqDiff, Nat.reduceLT, Nat.reduceLeDiff, Nat.reduceAdd, Nat.reduceSub, Nat.reduceMul, Nat.reduceDiv, Nat.reduceMod, Nat.reducePow, Nat.reduceBEq, Nat.reduceGT, reduceIte, S111len hb, hi, T3, T111] | simp (disch := first | assumption | omega) only [RV, S111len hb, hi])) <;> rfl))
        | (apply R_cond
           · (simp only [RE, Nat.reduceEqDiff, Nat.reduceLT, Nat.reduceLeDiff, Nat.reduceBEq, reduceIte] <;> rfl))
        | (apply R_grd
           · (simp only [yieldedA, RY, Nat.reduceEqDiff, reduceIte] <;> rfl)))
      refine ⟨.inr rfl, _, rfl, ?_, rfl⟩
      (try simp only [List.map_cons, List.map_nil, RH, Nat.reduceAdd, Nat.reduceEqDiff, reduceIte, ev_tmp, ev_const, lit_iv, lit_w8, lit_w32, lit_w64, envOf0, envOf1, envOf2, envOf3, envOf4, envOf5, packR, T3, T111])
      rw [hz]
  obtain ⟨_, _, e, rfl, rfl⟩ := this
  exact e
theorem inl105 : inlOf Try.prog 105 = true := by kernel_rfl
theorem iso105 : isoOf Try.prog 105 = false := by kernel_rfl
set_option maxRecDepth 20000 in
set_option maxHeartbeats 8000000 in
theorem carry105 (q : Nat) (h : Heap) (v : Value) (xs : List Nat) (hb : Iv h v xs) (hM : ∀ x ∈ xs, x ≤ 1073741824) (hl : xs.length ≤ 100000) :
    ∃ v' h', fcall Try.prog (q + 1) (.func (.func 105) #[] #[]) [v] h = some (.ok v', h') ∧ OwI h.nx h' v' (carryL xs 0) ∧ Fr h.nx h h' := by
  rw [fcall_inl inl105 iso105, evF_eq Try.func105 rfl]
  apply evEnd_of_W
  simp only [Try.f105]
  have hcl := carryL_length hM (c := 0) (by omega)
  repeat (first
    | refine R_seq ?_ | refine R_region ?_ | refine R_nil ?_ | refine Q_seq ?_ | refine Q_norm ?_ | refine Q_seqr ?_ | refine Q_seqx ?_ | refine Q_bl ?_ | refine Q_blr ?_ | refine Q_blx ?_ | refine Q_blo rfl ?_ | refine R_block ?_ | refine R_skip ?_ | refine R_exit ?_ | refine R_ret ?_ | refine I_true ?_ | refine I_false ?_ | refine N_exit ?_ | refine N_ret ?_
    | ((first | apply R_op | apply R_op0)
       · ((repeat (first | simp (maxDischargeDepth := 9) only [RA, Nat.reduceEqDiff, Nat.reduceLT, Nat.reduceLeDiff, Nat.reduceAdd, Nat.reduceSub, Nat.reduceMul, Nat.reduceDiv, Nat.reduceMod, Nat.reducePow, Nat.reduceBEq, Nat.reduceGT, reduceIte, T1, T3, T111] | simp (disch := first | assumption | omega) only [RV])) <;> rfl))
    | (apply R_cond
       · (simp only [RE, Nat.reduceEqDiff, Nat.reduceLT, Nat.reduceLeDiff, Nat.reduceBEq, reduceIte] <;> rfl))
    | (apply R_grd
       · (simp only [yieldedA, RY, Nat.reduceEqDiff, reduceIte] <;> rfl)))
  refine W_loopK [0] [] (fun j e1 h1 => e1 5 = iv j ∧ Fr h.nx h h1 ∧ ∃ c o, e1 4 = iv c ∧ c ≤ 1073741824 ∧ OwI h.nx h1 (e1 3) o ∧ o.length = j ∧ carryL xs 0 = o ++ carryL (xs.drop j) c) (carryL xs 0).length (by omega) ?_ ?_ ?_
  · exact ⟨by (try simp only [List.map_cons, List.map_nil, RH, Nat.reduceAdd, Nat.reduceEqDiff, reduceIte, ev_tmp, ev_const, lit_iv, lit_w8, lit_w32, lit_w64, envOf0, envOf1, envOf2, envOf3, envOf4, envOf5, T1, T3, T111]), .refl _ _, 0, [], by (try simp only [List.map_cons, List.map_nil, RH, Nat.reduceAdd, Nat.reduceEqDiff, reduceIte, ev_tmp, ev_const, lit_iv, lit_w8, lit_w32, lit_w64, envOf0, envOf1, envOf2, envOf3, envOf4, envOf5, T1, T3, T111]), by omega, by (try simp only [List.map_cons, List.map_nil, RH, Nat.reduceAdd, Nat.reduceEqDiff, reduceIte, ev_tmp, ev_const, lit_iv, lit_w8, lit_w32, lit_w64, envOf0, envOf1, envOf2, envOf3, envOf4, envOf5, T1, T3, T111]); exact .nil, rfl, by rw [List.drop_zero]; rfl⟩
  · intro j hj e1 h1 hK hO hN ⟨j5, F1, c, o, j4, hc, own1, ho, hcar⟩
    simp only [List.map_cons, List.map_nil, List.cons.injEq, and_true, RH, Nat.reduceAdd, Nat.reduceEqDiff, reduceIte, envOf0, envOf1, envOf2, envOf3, envOf4, envOf5] at hK
    have K0_0 := hK
    try simp only [RH] at hN
    have b1 := hb.fr0 F1
    have n1 := F1.1
    by_cases hjl : j < xs.length
    · have hx := getD_le hM j
      have hnx := carry_next1 c hjl
      have hxi := iv_ld Try.underlying3 inf3 b1 fr_refl hjl
      generalize xs.getD j 0 = x at hx hnx hxi
      repeat (first
        | refine R_seq ?_ | refine R_region ?_ | refine R_nil ?_ | refine Q_seq ?_ | refine Q_norm ?_ | refine Q_seqr ?_ | refine Q_seqx ?_ | refine Q_bl ?_ | refine Q_blr ?_ | refine Q_blx ?_ | refine Q_blo rfl ?_ | refine R_block ?_ | refine R_skip ?_ | refine R_exit ?_ | refine R_ret ?_ | refine I_true ?_ | refine I_false ?_ | refine N_exit ?_ | refine N_ret ?_
        | ((first | apply R_op | apply R_op0)
           · ((repeat (first | simp (maxDischargeDepth := 9) only [RA, Nat.reduceEqDiff, Nat.reduceLT, Nat.reduceLeDiff, Nat.reduceAdd, Nat.reduceSub, Nat.reduceMul, Nat.reduceDiv, Nat.reduceMod, Nat.reducePow, Nat.reduceBEq, Nat.reduceGT, reduceIte, j5, j4, S111len b1, S111ia b1 hjl, hjl, hxi, bs1_111, T1, T3, T111, K0_0] | simp (disch := first | assumption | omega) only [RV, j5, j4, S111len b1, S111ia b1 hjl, hjl, hxi, bs1_111, K0_0])) <;> rfl))
        | (apply R_cond
           · (simp only [RE, Nat.reduceEqDiff, Nat.reduceLT, Nat.reduceLeDiff, Nat.reduceBEq, reduceIte] <;> rfl))
        | (apply R_grd
           · (simp only [yieldedA, RY, Nat.reduceEqDiff, reduceIte] <;> rfl)))
      refine R_appI E111 Try.underlying111 (v := e1 3) (x := (c + x) % 256) (p := h1.nx) (lo := h.nx) (xs := o) ?_ ?_ own1.new (by simp only [RH]; omega) (by simp only [RH]) (by simp only [RH]; omega) (by omega) ?_
      · first | rfl | (first | rw [ev_tmp] | rw [ev_const] | skip) <;> simp only [upd_apply, Nat.reduceEqDiff, if_true, if_false, reduceIte, lit_iv, lit_w8, K0_0]
      · first | rfl | (first | rw [ev_tmp] | rw [ev_const] | skip) <;> simp only [upd_apply, Nat.reduceEqDiff, if_true, if_false, reduceIte, lit_iv, lit_w8, K0_0]
      intro v3 h3 own3 wt3
      have n3 := wt3.nx
      simp only [RH] at n3
      repeat (first
        | refine R_seq ?_ | refine R_region ?_ | refine R_nil ?_ | refine Q_seq ?_ | refine Q_norm ?_ | refine Q_seqr ?_ | refine Q_seqx ?_ | refine Q_bl ?_ | refine Q_blr ?_ | refine Q_blx ?_ | refine Q_blo rfl ?_ | refine R_block ?_ | refine R_skip ?_ | refine R_exit ?_ | refine R_ret ?_ | refine I_true ?_ | refine I_false ?_ | refine N_exit ?_ | refine N_ret ?_
        | ((first | apply R_op | apply R_op0)
           · ((repeat (first | simp (maxDischargeDepth := 9) only [RA, Nat.reduceEqDiff, Nat.reduceLT, Nat.reduceLeDiff, Nat.reduceAdd, Nat.reduceSub, Nat.reduceMul, Nat.reduceDiv, Nat.reduceMod, Nat.reducePow, Nat.reduceBEq, Nat.reduceGT, reduceIte, j5, j4, T1, T3, T111, K0_0] | simp (disch := first | assumption | omega) only [RV, j5, j4, K0_0])) <;> rfl))
        | (apply R_cond
           · (simp only [RE, Nat.reduceEqDiff, Nat.reduceLT, Nat.reduceLeDiff, Nat.reduceBEq, reduceIte] <;> rfl))
        | (apply R_grd
           · (simp only [yieldedA, RY, Nat.reduceEqDiff, reduceIte] <;> rfl)))
      refine ⟨rfl, by first | rfl | simp only [List.map_cons, List.map_nil, RH, Nat.reduceAdd, Nat.reduceEqDiff, reduceIte, T1, T3, T111, K0_0], by first | rfl | simp only [List.map_cons, List.map_nil, RH, Nat.reduceAdd, Nat.reduceEqDiff, reduceIte, T1, T3, T111, K0_0], by first | (simp only [RH, T1, T3, T111, K0_0]; done) | ((try simp only [RH, T1, T3, T111, K0_0]); omega), ?_⟩
      refine ⟨by (try simp only [List.map_cons, List.map_nil, RH, Nat.reduceAdd, Nat.reduceEqDiff, reduceIte, ev_tmp, ev_const, lit_iv, lit_w8, lit_w32, lit_w64, envOf0, envOf1, envOf2, envOf3, envOf4, envOf5, T1, T3, T111, K0_0]), F1.trans ((Fr.new (.refl h.nx h1) n1 .rw 1 _).trans (wt3.owFr (by simp only [RH]; omega) own1.new)), (c + x) / 256, o ++ [(c + x) % 256], by (try simp only [List.map_cons, List.map_nil, RH, Nat.reduceAdd, Nat.reduceEqDiff, reduceIte, ev_tmp, ev_const, lit_iv, lit_w8, lit_w32, lit_w64, envOf0, envOf1, envOf2, envOf3, envOf4, envOf5, T1, T3, T111, K0_0]), by omega, by (try simp only [List.map_cons, List.map_nil, RH, Nat.reduceAdd, Nat.reduceEqDiff, reduceIte, ev_tmp, ev_const, lit_iv, lit_w8, lit_w32, lit_w64, envOf0, envOf1, envOf2, envOf3, envOf4, envOf5, T1, T3, T111, K0_0]); exact own3, by rw [List.length_append, ho]; rfl, ?_⟩
      rw [hcar, hnx, List.append_assoc]; rfl
    · have hcp : 0 < c := by
        rcases Nat.eq_zero_or_pos c with h2 | h2
        · subst h2
          rw [List.drop_of_length_le (by omega)] at hcar
          have hz : carryL [] 0 = [] := by unfold carryL; exact digs_zero
          rw [hz, List.append_nil] at hcar
          rw [hcar] at hj
          omega
        · exact h2
      have hnx := carry_next2 (xs := xs) (j := j) (by omega) hcp
      repeat (first
        | refine R_seq ?_ | refine R_region ?_ | refine R_nil ?_ | refine Q_seq ?_ | refine Q_norm ?_ | refine Q_seqr ?_ | refine Q_seqx ?_ | refine Q_bl ?_ | refine Q_blr ?_ | refine Q_blx ?_ | refine Q_blo rfl ?_ | refine R_block ?_ | refine R_skip ?_ | refine R_exit ?_ | refine R_ret ?_ | refine I_true ?_ | refine I_false ?_ | refine N_exit ?_ | refine N_ret ?_
        | ((first | apply R_op | apply R_op0)
           · ((repeat (first | simp (maxDischargeDepth := 9) only [RA, Nat.reduceEqDiff, Nat.reduceLT, Nat.reduceLeDiff, Nat.reduceAdd, Nat.reduceSub, Nat.reduceMul, Nat.reduceDiv, Nat.reduceMod, Nat.reducePow, Nat.reduceBEq, Nat.reduceGT, reduceIte, j5, j4, S111len b1, hjl, hcp, bs1_111, T1, T3, T111, K0_0] | simp (disch := first | assumption | omega) only [RV, j5, j4, S111len b1, hjl, hcp, bs1_111, K0_0])) <;> rfl))
        | (apply R_cond
           · (simp only [RE, Nat.reduceEqDiff, Nat.reduceLT, Nat.reduceLeDiff, Nat.reduceBEq, reduceIte] <;> rfl))
        | (apply R_grd
           · (simp only [yieldedA, RY, Nat.reduceEqDiff, reduceIte] <;> rfl)))
      refine R_appI E111 Try.underlying111 (v := e1 3) (x := c % 256) (p := h1.nx) (lo := h.nx) (xs := o) ?_ ?_ own1.new (by simp only [RH]; omega) (by simp only [RH]) (by simp only [RH]; omega) (by omega) ?_
      · first | rfl | (first | rw [ev_tmp] | rw [ev_const] | skip) <;> simp only [upd_apply, Nat.reduceEqDiff, if_true, if_false, reduceIte, lit_iv, lit_w8, K0_0]
      · first | rfl | (first | rw [ev_tmp] | rw [ev_const] | skip) <;> simp only [upd_apply, Nat.reduceEqDiff, if_true, if_false, reduceIte, lit_iv, lit_w8, K0_0]
      intro v3 h3 own3 wt3
      have n3 := wt3.nx
      simp only [RH] at n3
      repeat (first
        | refine R_seq ?_ | refine R_region ?_ | refine R_nil ?_ | refine Q_seq ?_ | refine Q_norm ?_ | refine Q_seqr ?_ | refine Q_seqx ?_ | refine Q_bl ?_ | refine Q_blr ?_ | refine Q_blx ?_ | refine Q_blo rfl ?_ | refine R_block ?_ | refine R_skip ?_ | refine R_exit ?_ | refine R_ret ?_ | refine I_true ?_ | refine I_false ?_ | refine N_exit ?_ | refine N_ret ?_
        | ((first | apply R_op | apply R_op0)
           · ((repeat (first | simp (maxDischargeDepth := 9) only [RA, Nat.reduceEqDiff, Nat.reduceLT, Nat.reduceLeDiff, Nat.reduceAdd, Nat.reduceSub, Nat.reduceMul, Nat.reduceDiv, Nat.reduceMod, Nat.reducePow, Nat.reduceBEq, Nat.reduceGT, reduceIte, j5, j4, T1, T3, T111, K0_0] | simp (disch := first | assumption | omega) only [RV, j5, j4, K0_0])) <;> rfl))
        | (apply R_cond
           · (simp only [RE, Nat.reduceEqDiff, Nat.reduceLT, Nat.reduceLeDiff, Nat.reduceBEq, reduceIte] <;> rfl))
        | (apply R_grd
           · (simp only [yieldedA, RY, Nat.reduceEqDiff, reduceIte] <;> rfl)))
      refine ⟨rfl, by first | rfl | simp only [List.map_cons, List.map_nil, RH, Nat.reduceAdd, Nat.reduceEqDiff, reduceIte, T1, T3, T111, K0_0], by first | rfl | simp only [List.map_cons, List.map_nil, RH, Nat.reduceAdd, Nat.reduceEqDiff, reduceIte, T1, T3, T111, K0_0], by first | (simp only [RH, T1, T3, T111, K0_0]; done) | ((try simp only [RH, T1, T3, T111, K0_0]); omega), ?_⟩
      refine ⟨by (try simp only [List.map_cons, List.map_nil, RH, Nat.reduceAdd, Nat.reduceEqDiff, reduceIte, ev_tmp, ev_const, lit_iv, lit_w8, lit_w32, lit_w64, envOf0, envOf1, envOf2, envOf3, envOf4, envOf5, T1, T3, T111, K0_0]), F1.trans ((Fr.new (.refl h.nx h1) n1 .rw 1 _).trans (wt3.owFr (by simp only [RH]; omega) own1.new)), c / 256, o ++ [c % 256], by (try simp only [List.map_cons, List.map_nil, RH, Nat.reduceAdd, Nat.reduceEqDiff, reduceIte, ev_tmp, ev_const, lit_iv, lit_w8, lit_w32, lit_w64, envOf0, envOf1, envOf2, envOf3, envOf4, envOf5, T1, T3, T111, K0_0]), by omega, by (try simp only [List.map_cons, List.map_nil, RH, Nat.reduceAdd, Nat.reduceEqDiff, reduceIte, ev_tmp, ev_const, lit_iv, lit_w8, lit_w32, lit_w64, envOf0, envOf1, envOf2, envOf3, envOf4, envOf5, T1, T3, T111, K0_0]); exact own3, by rw [List.length_append, ho]; rfl, ?_⟩
      rw [hcar, hnx, List.append_assoc]; rfl
  · intro e1 h1 hK hO hN ⟨j5, F1, c, o, j4, hc, own1, ho, hcar⟩
    simp only [List.map_cons, List.map_nil, List.cons.injEq, and_true, RH, Nat.reduceAdd, Nat.reduceEqDiff, reduceIte, envOf0, envOf1, envOf2, envOf3, envOf4, envOf5] at hK
    have K0_0 := hK
    try simp only [RH] at hN
    have b1 := hb.fr0 F1
    have he : carryL (xs.drop (carryL xs 0).length) c = [] := by
      have := congrArg List.length hcar
      rw [List.length_append, ho] at this
      exact List.length_eq_zero_iff.1 (by omega)
    obtain ⟨hle, hc0⟩ := carry_end he
    subst hc0
    have hlt : ¬ (carryL xs 0).length < xs.length := by omega
    rw [he, List.append_nil] at hcar
    repeat (first
      | refine R_seq ?_ | refine R_region ?_ | refine R_nil ?_ | refine Q_seq ?_ | refine Q_norm ?_ | refine Q_seqr ?_ | refine Q_seqx ?_ | refine Q_bl ?_ | refine Q_blr ?_ | refine Q_blx ?_ | refine Q_blo rfl ?_ | refine R_block ?_ | refine R_skip ?_ | refine R_exit ?_ | refine R_ret ?_ | refine I_true ?_ | refine I_false ?_ | refine N_exit ?_ | refine N_ret ?_
      | ((first | apply R_op | apply R_op0)
         · ((repeat (first | simp (maxDischargeDepth := 9) only [RA, Nat.reduceEqDiff, Nat.reduceLT, Nat.reduceLeDiff, Nat.reduceAdd, Nat.reduceSub, Nat.reduceMul, Nat.reduceDiv, Nat.reduceMod, Nat.reducePow, Nat.reduceBEq, Nat.reduceGT, reduceIte, j5, j4, S111len b1, hlt, T1, T3, T111, K0_0] | simp (disch := first | assumption | omega) only [RV, j5, j4, S111len b1, hlt, K0_0])) <;> rfl))
      | (apply R_cond
         · (simp only [RE, Nat.reduceEqDiff, Nat.reduceLT, Nat.reduceLeDiff, Nat.reduceBEq, reduceIte] <;> rfl))
      | (apply R_grd
         · (simp only [yieldedA, RY, Nat.reduceEqDiff, reduceIte] <;> rfl)))
    refine ⟨.inr rfl, _, rfl, ?_, F1⟩
    (try simp only [List.map_cons, List.map_nil, RH, Nat.reduceAdd, Nat.reduceEqDiff, reduceIte, ev_tmp, ev_const, lit_iv, lit_w8, lit_w32, lit_w64, envOf0, envOf1, envOf2, envOf3, envOf4, envOf5, packR, T1, T3, T111, K0_0])
    rw [hcar]
    exact own1
end Go.Proofs.Ytfehhihllenjiaa
