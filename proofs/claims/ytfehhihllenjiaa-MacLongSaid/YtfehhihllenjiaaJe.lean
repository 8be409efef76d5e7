/- Tags: the reference's tag, and what is drawn from keys. -/
import Derived.Test.YtfehhihllenjiaaJd
set_option linter.all false
namespace Go.Proofs.Ytfehhihllenjiaa
open Go.Proofs
attribute [local irreducible] evOps iter evD evF evC evLoad evStore evAlloc evIndexAddr evIndex evLenB evBox evBin evUn evConvert evExtract evSlice evAppend evCopy evNil evBuild evMakeSlice evBuildSlice evBuiltin Program.underlying
theorem turnR_pad (key : List (BitVec 8)) (c : BitVec 8) : turnR (keyS key) c 64 = turnB (padK key) c := by
  rw [turnR_eq (keyS_length key)]; rfl
attribute [local irreducible] sumS turnB keyS padK hmacS turnR
theorem inl71 : inlOf Try.prog 71 = true := by kernel_rfl
theorem iso71 : isoOf Try.prog 71 = false := by kernel_rfl
set_option maxRecDepth 20000 in
set_option maxHeartbeats 8000000 in
theorem hmac71 (q : Nat) (h : Heap) (v w : Value) (key b : List (BitVec 8)) (hk : By h v key) (hb : By h w b) (hkl : key.length ≤ 1073741824) (hbl : b.length ≤ 1073741824) :
    ∃ v' h', fcall Try.prog (q + 7) (.func (.func 71) #[] #[]) [v, w] h = some (.ok v', h') ∧ v' = .agg ⟨b8 (hmacS key b)⟩ ∧ Fr h.nx h h' := by
  rw [fcall_inl inl71 iso71, evF_eq Try.func71 rfl]
  apply evEnd_of_W
  simp only [Try.f71]
  have hkl2 := keyS_length key
  repeat (first
    | refine R_seq ?_ | refine R_region ?_ | refine R_nil ?_ | refine Q_seq ?_ | refine Q_norm ?_ | refine Q_seqr ?_ | refine Q_seqx ?_ | refine Q_bl ?_ | refine Q_blr ?_ | refine Q_blx ?_ | refine Q_blo rfl ?_ | refine R_block ?_ | refine R_skip ?_ | refine R_exit ?_ | refine R_ret ?_ | refine I_true ?_ | refine I_false ?_ | refine N_exit ?_ | refine N_ret ?_
    | ((first | apply R_op | apply R_op0)
       · (first | (simp (maxDischargeDepth := 9) only [RA, Nat.reduceEqDiff, Nat.reduceLT, Nat.reduceLeDiff, Nat.reduceAdd, Nat.reduceSub, Nat.reduceMul, Nat.reduceDiv, Nat.reduceMod, Nat.reducePow, Nat.reduceBEq, Nat.reduceGT, reduceIte, S38len hk, rep8, T3, T5, T30, T38] <;> rfl) | ((repeat (first | (simp (maxDischargeDepth := 9) only [RA, Nat.reduceEqDiff, Nat.reduceLT, Nat.reduceLeDiff, Nat.reduceAdd, Nat.reduceSub, Nat.reduceMul, Nat.reduceDiv, Nat.reduceMod, Nat.reducePow, Nat.reduceBEq, Nat.reduceGT, reduceIte, S38len hk, rep8, T3, T5, T30, T38]; done) | simp (maxDischargeDepth := 9) only [RA, Nat.reduceEqDiff, Nat.reduceLT, Nat.reduceLeDiff, Nat.reduceAdd, Nat.reduceSub, Nat.reduceMul, Nat.reduceDiv, Nat.reduceMod, Nat.reducePow, Nat.reduceBEq, Nat.reduceGT, reduceIte, S38len hk, rep8, T3, T5, T30, T38] | simp (disch := first | assumption | omega) only [RV, S38len hk, rep8, T3, T5, T30, T38])) <;> rfl)))
    | (apply R_cond
       · (simp only [RE, Nat.reduceEqDiff, Nat.reduceLT, Nat.reduceLeDiff, Nat.reduceBEq, reduceIte, S38len hk, rep8, T3, T5, T30, T38] <;> rfl))
    | (apply R_grd
       · (simp only [yieldedA, RY, Nat.reduceEqDiff, reduceIte, S38len hk, rep8, T3, T5, T30, T38] <;> rfl)))
  refine I_join (fun e1 h1 => ∃ u, e1 5 = u ∧ By h1 u (keyS key) ∧ e1 1 = w ∧ e1 4 = .pointer (some ⟨h.nx, 0, none⟩) ∧ h1.obj h.nx = some (.row .rw 1 (b8 (List.replicate 32 0#8))) ∧ Fr h.nx h h1 ∧ h.nx + 1 ≤ h1.nx) ?_ ?_ ?_
  · intro hlong
    have hks : keyS key = sumS key := by unfold keyS; exact if_pos hlong
    repeat (first
      | refine R_seq ?_ | refine R_region ?_ | refine R_nil ?_ | refine Q_seq ?_ | refine Q_norm ?_ | refine Q_seqr ?_ | refine Q_seqx ?_ | refine Q_bl ?_ | refine Q_blr ?_ | refine Q_blx ?_ | refine Q_blo rfl ?_ | refine R_block ?_ | refine R_skip ?_ | refine R_exit ?_ | refine R_ret ?_ | refine I_true ?_ | refine I_false ?_ | refine N_exit ?_ | refine N_ret ?_
      | ((first | apply R_op | apply R_op0)
         · (first | (simp (maxDischargeDepth := 9) only [RA, Nat.reduceEqDiff, Nat.reduceLT, Nat.reduceLeDiff, Nat.reduceAdd, Nat.reduceSub, Nat.reduceMul, Nat.reduceDiv, Nat.reduceMod, Nat.reducePow, Nat.reduceBEq, Nat.reduceGT, reduceIte, T3, T5, T30, T38] <;> rfl) | ((repeat (first | (simp (maxDischargeDepth := 9) only [RA, Nat.reduceEqDiff, Nat.reduceLT, Nat.reduceLeDiff, Nat.reduceAdd, Nat.reduceSub, Nat.reduceMul, Nat.reduceDiv, Nat.reduceMod, Nat.reducePow, Nat.reduceBEq, Nat.reduceGT, reduceIte, T3, T5, T30, T38]; done) | simp (maxDischargeDepth := 9) only [RA, Nat.reduceEqDiff, Nat.reduceLT, Nat.reduceLeDiff, Nat.reduceAdd, Nat.reduceSub, Nat.reduceMul, Nat.reduceDiv, Nat.reduceMod, Nat.reducePow, Nat.reduceBEq, Nat.reduceGT, reduceIte, T3, T5, T30, T38] | simp (disch := first | assumption | omega) only [RV, T3, T5, T30, T38])) <;> rfl)))
      | (apply R_cond
         · (simp only [RE, Nat.reduceEqDiff, Nat.reduceLT, Nat.reduceLeDiff, Nat.reduceBEq, reduceIte, T3, T5, T30, T38] <;> rfl))
      | (apply R_grd
         · (simp only [yieldedA, RY, Nat.reduceEqDiff, reduceIte, T3, T5, T30, T38] <;> rfl)))
    refine R_fn ?_ (sum53 (q + 2) _ v key (hk.fr0 (by (repeat (first | assumption | exact Fr.refl _ _ | refine Fr.new ?_ ?_ _ _ _ | refine Fr.put ?_ ?_ _ | omega | (simp only [RH]; omega))))) (by omega)) ?_
    · rfl
    intro v1 h1 ⟨hv1, F1⟩
    subst hv1
    simp only [RH] at F1
    have n1 := F1.1
    simp only [RH] at n1
    have o0 := F1.2 h.nx (by omega)
    simp only [RH, rep8, Nat.reduceEqDiff, reduceIte] at o0
    have hsl := sumS_len key
    have hp8 := fun (H : Heap) (p : Nat) => puts8 (h := H) (b := p) (es := 1) hsl (List.length_replicate (n := 32) (a := 0#8))
    repeat (first
      | refine R_seq ?_ | refine R_region ?_ | refine R_nil ?_ | refine Q_seq ?_ | refine Q_norm ?_ | refine Q_seqr ?_ | refine Q_seqx ?_ | refine Q_bl ?_ | refine Q_blr ?_ | refine Q_blx ?_ | refine Q_blo rfl ?_ | refine R_block ?_ | refine R_skip ?_ | refine R_exit ?_ | refine R_ret ?_ | refine I_true ?_ | refine I_false ?_ | refine N_exit ?_ | refine N_ret ?_
      | ((first | apply R_op | apply R_op0)
         · (first | (simp (maxDischargeDepth := 9) only [RA, Nat.reduceEqDiff, Nat.reduceLT, Nat.reduceLeDiff, Nat.reduceAdd, Nat.reduceSub, Nat.reduceMul, Nat.reduceDiv, Nat.reduceMod, Nat.reducePow, Nat.reduceBEq, Nat.reduceGT, reduceIte, hp8, rep8, T3, T5, T30, T38] <;> rfl) | ((repeat (first | (simp (maxDischargeDepth := 9) only [RA, Nat.reduceEqDiff, Nat.reduceLT, Nat.reduceLeDiff, Nat.reduceAdd, Nat.reduceSub, Nat.reduceMul, Nat.reduceDiv, Nat.reduceMod, Nat.reducePow, Nat.reduceBEq, Nat.reduceGT, reduceIte, hp8, rep8, T3, T5, T30, T38]; done) | simp (maxDischargeDepth := 9) only [RA, Nat.reduceEqDiff, Nat.reduceLT, Nat.reduceLeDiff, Nat.reduceAdd, Nat.reduceSub, Nat.reduceMul, Nat.reduceDiv, Nat.reduceMod, Nat.reducePow, Nat.reduceBEq, Nat.reduceGT, reduceIte, hp8, rep8, T3, T5, T30, T38] | simp (disch := first | assumption | omega) only [RV, hp8, rep8, T3, T5, T30, T38])) <;> rfl)))
      | (apply R_cond
         · (simp only [RE, Nat.reduceEqDiff, Nat.reduceLT, Nat.reduceLeDiff, Nat.reduceBEq, reduceIte, hp8, rep8, T3, T5, T30, T38] <;> rfl))
      | (apply R_grd
         · (simp only [yieldedA, RY, Nat.reduceEqDiff, reduceIte, hp8, rep8, T3, T5, T30, T38] <;> rfl)))
    refine ⟨rfl, .slice (some ⟨h1.nx, 0, none⟩) 32 32, by (try simp only [List.map_cons, List.map_nil, RH, Nat.reduceAdd, Nat.reduceEqDiff, reduceIte, ev_tmp, ev_const, lit_iv, lit_w8, lit_w32, lit_w64, envOf0, envOf1, envOf2, envOf3, envOf4, envOf5, T3, T5, T30, T38]), ?_, by (try simp only [List.map_cons, List.map_nil, RH, Nat.reduceAdd, Nat.reduceEqDiff, reduceIte, ev_tmp, ev_const, lit_iv, lit_w8, lit_w32, lit_w64, envOf0, envOf1, envOf2, envOf3, envOf4, envOf5, T3, T5, T30, T38]), by (try simp only [List.map_cons, List.map_nil, RH, Nat.reduceAdd, Nat.reduceEqDiff, reduceIte, ev_tmp, ev_const, lit_iv, lit_w8, lit_w32, lit_w64, envOf0, envOf1, envOf2, envOf3, envOf4, envOf5, T3, T5, T30, T38]), ?_, ?_, by simp only [RH]; omega⟩
    · rw [hks]
      exact by_row (k := .rw) (by simp only [RH]; omega) (by simp [RH]) (Nat.le_refl _) hsl
    · simp only [RH]
      rw [if_neg (by omega), if_neg (by omega), o0]
    · refine Fr.put (Fr.new ?_ (by omega) _ _ _) (by omega) _
      exact (Fr.new (.refl _ _) (Nat.le_refl _) _ _ _).trans (F1.le (by omega))
  · intro hlong
    have hks : keyS key = key := by unfold keyS; exact if_neg hlong
    repeat (first
      | refine R_seq ?_ | refine R_region ?_ | refine R_nil ?_ | refine Q_seq ?_ | refine Q_norm ?_ | refine Q_seqr ?_ | refine Q_seqx ?_ | refine Q_bl ?_ | refine Q_blr ?_ | refine Q_blx ?_ | refine Q_blo rfl ?_ | refine R_block ?_ | refine R_skip ?_ | refine R_exit ?_ | refine R_ret ?_ | refine I_true ?_ | refine I_false ?_ | refine N_exit ?_ | refine N_ret ?_
      | ((first | apply R_op | apply R_op0)
         · (first | (simp (maxDischargeDepth := 9) only [RA, Nat.reduceEqDiff, Nat.reduceLT, Nat.reduceLeDiff, Nat.reduceAdd, Nat.reduceSub, Nat.reduceMul, Nat.reduceDiv, Nat.reduceMod, Nat.reducePow, Nat.reduceBEq, Nat.reduceGT, reduceIte, T3, T5, T30, T38] <;> rfl) | ((repeat (first | (simp (maxDischargeDepth := 9) only [RA, Nat.reduceEqDiff, Nat.reduceLT, Nat.reduceLeDiff, Nat.reduceAdd, Nat.reduceSub, Nat.reduceMul, Nat.reduceDiv, Nat.reduceMod, Nat.reducePow, Nat.reduceBEq, Nat.reduceGT, reduceIte, T3, T5, T30, T38]; done) | simp (maxDischargeDepth := 9) only [RA, Nat.reduceEqDiff, Nat.reduceLT, Nat.reduceLeDiff, Nat.reduceAdd, Nat.reduceSub, Nat.reduceMul, Nat.reduceDiv, Nat.reduceMod, Nat.reducePow, Nat.reduceBEq, Nat.reduceGT, reduceIte, T3, T5, T30, T38] | simp (disch := first | assumption | omega) only [RV, T3, T5, T30, T38])) <;> rfl)))
      | (apply R_cond
         · (simp only [RE, Nat.reduceEqDiff, Nat.reduceLT, Nat.reduceLeDiff, Nat.reduceBEq, reduceIte, T3, T5, T30, T38] <;> rfl))
      | (apply R_grd
         · (simp only [yieldedA, RY, Nat.reduceEqDiff, reduceIte, T3, T5, T30, T38] <;> rfl)))
    refine ⟨rfl, v, by (try simp only [List.map_cons, List.map_nil, RH, Nat.reduceAdd, Nat.reduceEqDiff, reduceIte, ev_tmp, ev_const, lit_iv, lit_w8, lit_w32, lit_w64, envOf0, envOf1, envOf2, envOf3, envOf4, envOf5, T3, T5, T30, T38]), ?_, by (try simp only [List.map_cons, List.map_nil, RH, Nat.reduceAdd, Nat.reduceEqDiff, reduceIte, ev_tmp, ev_const, lit_iv, lit_w8, lit_w32, lit_w64, envOf0, envOf1, envOf2, envOf3, envOf4, envOf5, T3, T5, T30, T38]), by (try simp only [List.map_cons, List.map_nil, RH, Nat.reduceAdd, Nat.reduceEqDiff, reduceIte, ev_tmp, ev_const, lit_iv, lit_w8, lit_w32, lit_w64, envOf0, envOf1, envOf2, envOf3, envOf4, envOf5, T3, T5, T30, T38]), ?_, by (repeat (first | assumption | exact Fr.refl _ _ | refine Fr.new ?_ ?_ _ _ _ | refine Fr.put ?_ ?_ _ | omega | (simp only [RH]; omega))), by simp only [RH]; omega⟩
    · rw [hks]; exact hk.fr0 (by (repeat (first | assumption | exact Fr.refl _ _ | refine Fr.new ?_ ?_ _ _ _ | refine Fr.put ?_ ?_ _ | omega | (simp only [RH]; omega))))
    · simp [RH, rep8]
  intro e1 h1 ⟨u, j5, bu, j1, j4, o0, F1, n1⟩
  repeat (first
    | refine R_seq ?_ | refine R_region ?_ | refine R_nil ?_ | refine Q_seq ?_ | refine Q_norm ?_ | refine Q_seqr ?_ | refine Q_seqx ?_ | refine Q_bl ?_ | refine Q_blr ?_ | refine Q_blx ?_ | refine Q_blo rfl ?_ | refine R_block ?_ | refine R_skip ?_ | refine R_exit ?_ | refine R_ret ?_ | refine I_true ?_ | refine I_false ?_ | refine N_exit ?_ | refine N_ret ?_
    | ((first | apply R_op | apply R_op0)
       · (first | (simp (maxDischargeDepth := 9) only [RA, Nat.reduceEqDiff, Nat.reduceLT, Nat.reduceLeDiff, Nat.reduceAdd, Nat.reduceSub, Nat.reduceMul, Nat.reduceDiv, Nat.reduceMod, Nat.reducePow, Nat.reduceBEq, Nat.reduceGT, reduceIte, j5, j1, T3, T5, T30, T38] <;> rfl) | ((repeat (first | (simp (maxDischargeDepth := 9) only [RA, Nat.reduceEqDiff, Nat.reduceLT, Nat.reduceLeDiff, Nat.reduceAdd, Nat.reduceSub, Nat.reduceMul, Nat.reduceDiv, Nat.reduceMod, Nat.reducePow, Nat.reduceBEq, Nat.reduceGT, reduceIte, j5, j1, T3, T5, T30, T38]; done) | simp (maxDischargeDepth := 9) only [RA, Nat.reduceEqDiff, Nat.reduceLT, Nat.reduceLeDiff, Nat.reduceAdd, Nat.reduceSub, Nat.reduceMul, Nat.reduceDiv, Nat.reduceMod, Nat.reducePow, Nat.reduceBEq, Nat.reduceGT, reduceIte, j5, j1, T3, T5, T30, T38] | simp (disch := first | assumption | omega) only [RV, j5, j1, T3, T5, T30, T38])) <;> rfl)))
    | (apply R_cond
       · (simp only [RE, Nat.reduceEqDiff, Nat.reduceLT, Nat.reduceLeDiff, Nat.reduceBEq, reduceIte, j5, j1, T3, T5, T30, T38] <;> rfl))
    | (apply R_grd
       · (simp only [yieldedA, RY, Nat.reduceEqDiff, reduceIte, j5, j1, T3, T5, T30, T38] <;> rfl)))
  refine R_fn ?_ (turned110 (q + 5) h1 u w (keyS key) b 54#8 bu (hb.fr0 F1) hkl2 (by omega)) ?_
  · rfl
  intro v2 h2 ⟨own2, F2⟩
  have n2 := F2.1
  rw [turnR_pad] at own2
  have hpk := padK_length key
  have htl1 := turnB_length (padK key) 0x36#8
  have htl2 := turnB_length (padK key) 0x5c#8
  rw [hpk] at htl1 htl2
  repeat (first
    | refine R_seq ?_ | refine R_region ?_ | refine R_nil ?_ | refine Q_seq ?_ | refine Q_norm ?_ | refine Q_seqr ?_ | refine Q_seqx ?_ | refine Q_bl ?_ | refine Q_blr ?_ | refine Q_blx ?_ | refine Q_blo rfl ?_ | refine R_block ?_ | refine R_skip ?_ | refine R_exit ?_ | refine R_ret ?_ | refine I_true ?_ | refine I_false ?_ | refine N_exit ?_ | refine N_ret ?_
    | ((first | apply R_op | apply R_op0)
       · (first | (simp (maxDischargeDepth := 9) only [RA, Nat.reduceEqDiff, Nat.reduceLT, Nat.reduceLeDiff, Nat.reduceAdd, Nat.reduceSub, Nat.reduceMul, Nat.reduceDiv, Nat.reduceMod, Nat.reducePow, Nat.reduceBEq, Nat.reduceGT, reduceIte, T3, T5, T30, T38] <;> rfl) | ((repeat (first | (simp (maxDischargeDepth := 9) only [RA, Nat.reduceEqDiff, Nat.reduceLT, Nat.reduceLeDiff, Nat.reduceAdd, Nat.reduceSub, Nat.reduceMul, Nat.reduceDiv, Nat.reduceMod, Nat.reducePow, Nat.reduceBEq, Nat.reduceGT, reduceIte, T3, T5, T30, T38]; done) | simp (maxDischargeDepth := 9) only [RA, Nat.reduceEqDiff, Nat.reduceLT, Nat.reduceLeDiff, Nat.reduceAdd, Nat.reduceSub, Nat.reduceMul, Nat.reduceDiv, Nat.reduceMod, Nat.reducePow, Nat.reduceBEq, Nat.reduceGT, reduceIte, T3, T5, T30, T38] | simp (disch := first | assumption | omega) only [RV, T3, T5, T30, T38])) <;> rfl)))
    | (apply R_cond
       · (simp only [RE, Nat.reduceEqDiff, Nat.reduceLT, Nat.reduceLeDiff, Nat.reduceBEq, reduceIte, T3, T5, T30, T38] <;> rfl))
    | (apply R_grd
       · (simp only [yieldedA, RY, Nat.reduceEqDiff, reduceIte, T3, T5, T30, T38] <;> rfl)))
  refine R_fn ?_ (sum53 (q + 2) h2 v2 _ own2.sl (by rw [List.length_append, htl1]; omega)) ?_
  · rfl
  intro v3 h3 ⟨hv3, F3⟩
  subst hv3
  have n3 := F3.1
  have hsl := sumS_len (turnB (padK key) 0x36#8 ++ b)
  have hp8 := fun (H : Heap) (p : Nat) => puts8 (h := H) (b := p) (es := 1) hsl (List.length_replicate (n := 32) (a := 0#8))
  generalize hinner : sumS (turnB (padK key) 0x36#8 ++ b) = inner at hsl hp8
  have FA : Fr h.nx h h3 := F1.trans ((F2.le (by omega)).trans (F3.le (by omega)))
  have oN3 : h3.obj h.nx = some (.row .rw 1 (b8 (List.replicate 32 0#8))) := by rw [F3.2 _ (by omega), F2.2 _ (by omega)]; exact o0
  repeat (first
    | refine R_seq ?_ | refine R_region ?_ | refine R_nil ?_ | refine Q_seq ?_ | refine Q_norm ?_ | refine Q_seqr ?_ | refine Q_seqx ?_ | refine Q_bl ?_ | refine Q_blr ?_ | refine Q_blx ?_ | refine Q_blo rfl ?_ | refine R_block ?_ | refine R_skip ?_ | refine R_exit ?_ | refine R_ret ?_ | refine I_true ?_ | refine I_false ?_ | refine N_exit ?_ | refine N_ret ?_
    | ((first | apply R_op | apply R_op0)
       · (first | (simp (maxDischargeDepth := 9) only [RA, Nat.reduceEqDiff, Nat.reduceLT, Nat.reduceLeDiff, Nat.reduceAdd, Nat.reduceSub, Nat.reduceMul, Nat.reduceDiv, Nat.reduceMod, Nat.reducePow, Nat.reduceBEq, Nat.reduceGT, reduceIte, hp8, rep8, j5, T3, T5, T30, T38] <;> rfl) | ((repeat (first | (simp (maxDischargeDepth := 9) only [RA, Nat.reduceEqDiff, Nat.reduceLT, Nat.reduceLeDiff, Nat.reduceAdd, Nat.reduceSub, Nat.reduceMul, Nat.reduceDiv, Nat.reduceMod, Nat.reducePow, Nat.reduceBEq, Nat.reduceGT, reduceIte, hp8, rep8, j5, T3, T5, T30, T38]; done) | simp (maxDischargeDepth := 9) only [RA, Nat.reduceEqDiff, Nat.reduceLT, Nat.reduceLeDiff, Nat.reduceAdd, Nat.reduceSub, Nat.reduceMul, Nat.reduceDiv, Nat.reduceMod, Nat.reducePow, Nat.reduceBEq, Nat.reduceGT, reduceIte, hp8, rep8, j5, T3, T5, T30, T38] | simp (disch := first | assumption | omega) only [RV, hp8, rep8, j5, T3, T5, T30, T38])) <;> rfl)))
    | (apply R_cond
       · (simp only [RE, Nat.reduceEqDiff, Nat.reduceLT, Nat.reduceLeDiff, Nat.reduceBEq, reduceIte, hp8, rep8, j5, T3, T5, T30, T38] <;> rfl))
    | (apply R_grd
       · (simp only [yieldedA, RY, Nat.reduceEqDiff, reduceIte, hp8, rep8, j5, T3, T5, T30, T38] <;> rfl)))
  obtain ⟨H, hH⟩ : ∃ H, H = (newRowH h3 .rw 1 (b8 (List.replicate 32 0#8))).put h3.nx (some (AObj.row .rw 1 (b8 inner))) := ⟨_, rfl⟩
  rw [← hH]
  have oi : H.obj h3.nx = some (.row .rw 1 (b8 inner)) := by rw [hH]; simp [RH]
  have nHe : H.nx = h3.nx + 1 := by rw [hH]; simp [RH]
  have FHH : Fr h3.nx h3 H := by rw [hH]; (repeat (first | assumption | exact Fr.refl _ _ | refine Fr.new ?_ ?_ _ _ _ | refine Fr.put ?_ ?_ _ | omega | (simp only [RH]; omega)))
  clear hH
  refine R_fn ?_ (turned110 (q + 5) H u (.slice (some ⟨h3.nx, 0, none⟩) 32 32) (keyS key) inner 92#8 (bu.fr0 ((F2.trans (F3.le (by omega))).trans (FHH.le (by omega)))) (by_row (k := .rw) (by omega) oi (Nat.le_refl _) hsl) hkl2 (by omega)) ?_
  · rfl
  intro v4 h4 ⟨own4, F4⟩
  have n4 := F4.1
  rw [turnR_pad] at own4
  repeat (first
    | refine R_seq ?_ | refine R_region ?_ | refine R_nil ?_ | refine Q_seq ?_ | refine Q_norm ?_ | refine Q_seqr ?_ | refine Q_seqx ?_ | refine Q_bl ?_ | refine Q_blr ?_ | refine Q_blx ?_ | refine Q_blo rfl ?_ | refine R_block ?_ | refine R_skip ?_ | refine R_exit ?_ | refine R_ret ?_ | refine I_true ?_ | refine I_false ?_ | refine N_exit ?_ | refine N_ret ?_
    | ((first | apply R_op | apply R_op0)
       · (first | (simp (maxDischargeDepth := 9) only [RA, Nat.reduceEqDiff, Nat.reduceLT, Nat.reduceLeDiff, Nat.reduceAdd, Nat.reduceSub, Nat.reduceMul, Nat.reduceDiv, Nat.reduceMod, Nat.reducePow, Nat.reduceBEq, Nat.reduceGT, reduceIte, T3, T5, T30, T38] <;> rfl) | ((repeat (first | (simp (maxDischargeDepth := 9) only [RA, Nat.reduceEqDiff, Nat.reduceLT, Nat.reduceLeDiff, Nat.reduceAdd, Nat.reduceSub, Nat.reduceMul, Nat.reduceDiv, Nat.reduceMod, Nat.reducePow, Nat.reduceBEq, Nat.reduceGT, reduceIte, T3, T5, T30, T38]; done) | simp (maxDischargeDepth := 9) only [RA, Nat.reduceEqDiff, Nat.reduceLT, Nat.reduceLeDiff, Nat.reduceAdd, Nat.reduceSub, Nat.reduceMul, Nat.reduceDiv, Nat.reduceMod, Nat.reducePow, Nat.reduceBEq, Nat.reduceGT, reduceIte, T3, T5, T30, T38] | simp (disch := first | assumption | omega) only [RV, T3, T5, T30, T38])) <;> rfl)))
    | (apply R_cond
       · (simp only [RE, Nat.reduceEqDiff, Nat.reduceLT, Nat.reduceLeDiff, Nat.reduceBEq, reduceIte, T3, T5, T30, T38] <;> rfl))
    | (apply R_grd
       · (simp only [yieldedA, RY, Nat.reduceEqDiff, reduceIte, T3, T5, T30, T38] <;> rfl)))
  refine R_fn ?_ (sum53 (q + 2) h4 v4 _ own4.sl (by rw [List.length_append, htl2]; omega)) ?_
  · rfl
  intro v5 h5 ⟨hv5, F5⟩
  subst hv5
  have n5 := F5.1
  have hout : sumS (turnB (padK key) 0x5c#8 ++ inner) = hmacS key b := by rw [← hinner]; unfold hmacS; rfl
  rw [hout]
  have hml := hmacS_length key b
  have hcm := fun (kd : Kind) (es : Nat) => cut8 (k := kd) (es := es) hml
  have hpm := fun (H : Heap) (p : Nat) => puts8 (h := H) (b := p) (es := 1) hml (List.length_replicate (n := 32) (a := 0#8))
  have oN5 : h5.obj h.nx = some (.row .rw 1 (b8 (List.replicate 32 0#8))) := by rw [F5.2 _ (by omega), F4.2 _ (by omega), FHH.2 _ (by omega)]; exact oN3
  have FE : Fr h.nx h h5 := FA.trans ((FHH.le (by omega)).trans ((F4.le (by omega)).trans (F5.le (by omega))))
  repeat (first
    | refine R_seq ?_ | refine R_region ?_ | refine R_nil ?_ | refine Q_seq ?_ | refine Q_norm ?_ | refine Q_seqr ?_ | refine Q_seqx ?_ | refine Q_bl ?_ | refine Q_blr ?_ | refine Q_blx ?_ | refine Q_blo rfl ?_ | refine R_block ?_ | refine R_skip ?_ | refine R_exit ?_ | refine R_ret ?_ | refine I_true ?_ | refine I_false ?_ | refine N_exit ?_ | refine N_ret ?_
    | ((first | apply R_op | apply R_op0)
       · (first | (simp (maxDischargeDepth := 9) only [RA, Nat.reduceEqDiff, Nat.reduceLT, Nat.reduceLeDiff, Nat.reduceAdd, Nat.reduceSub, Nat.reduceMul, Nat.reduceDiv, Nat.reduceMod, Nat.reducePow, Nat.reduceBEq, Nat.reduceGT, reduceIte, oN5, hpm, j4, T3, T5, T30, T38] <;> rfl) | ((repeat (first | (simp (maxDischargeDepth := 9) only [RA, Nat.reduceEqDiff, Nat.reduceLT, Nat.reduceLeDiff, Nat.reduceAdd, Nat.reduceSub, Nat.reduceMul, Nat.reduceDiv, Nat.reduceMod, Nat.reducePow, Nat.reduceBEq, Nat.reduceGT, reduceIte, oN5, hpm, j4, T3, T5, T30, T38]; done) | simp (maxDischargeDepth := 9) only [RA, Nat.reduceEqDiff, Nat.reduceLT, Nat.reduceLeDiff, Nat.reduceAdd, Nat.reduceSub, Nat.reduceMul, Nat.reduceDiv, Nat.reduceMod, Nat.reducePow, Nat.reduceBEq, Nat.reduceGT, reduceIte, oN5, hpm, j4, T3, T5, T30, T38] | simp (disch := first | assumption | omega) only [RV, oN5, hpm, j4, T3, T5, T30, T38])) <;> rfl)))
    | (apply R_cond
       · (simp only [RE, Nat.reduceEqDiff, Nat.reduceLT, Nat.reduceLeDiff, Nat.reduceBEq, reduceIte, oN5, hpm, j4, T3, T5, T30, T38] <;> rfl))
    | (apply R_grd
       · (simp only [yieldedA, RY, Nat.reduceEqDiff, reduceIte, oN5, hpm, j4, T3, T5, T30, T38] <;> rfl)))
  first | refine ⟨.inr rfl, ?_⟩ | refine ⟨.inl rfl, ?_⟩
  simp only [evResultList, evResult, ld30, RH, upd_apply, Nat.reduceEqDiff, reduceIte, hcm, j4, Option.map_some]
  exact ⟨_, rfl, rfl, FE.put (Nat.le_refl _) _⟩
theorem inl75 : inlOf Try.prog 75 = true := by kernel_rfl
theorem iso75 : isoOf Try.prog 75 = false := by kernel_rfl
set_option maxRecDepth 20000 in
set_option maxHeartbeats 8000000 in
theorem ext75 (q : Nat) (h : Heap) (v w : Value) (key b : List (BitVec 8)) (hk : By h v key) (hb : By h w b) (hkl : key.length ≤ 1073741824) (hbl : b.length ≤ 1073741824) :
    ∃ v' h', fcall Try.prog (q + 10) (.func (.func 75) #[] #[]) [v, w] h = some (.ok v', h') ∧ v' = .agg ⟨b8 (hmacS key b)⟩ ∧ Fr h.nx h h' := by
  rw [fcall_inl inl75 iso75, evF_eq Try.func75 rfl]
  apply evEnd_of_W
  simp only [Try.f75]
  repeat (first
    | refine R_seq ?_ | refine R_region ?_ | refine R_nil ?_ | refine Q_seq ?_ | refine Q_norm ?_ | refine Q_seqr ?_ | refine Q_seqx ?_ | refine Q_bl ?_ | refine Q_blr ?_ | refine Q_blx ?_ | refine Q_blo rfl ?_ | refine R_block ?_ | refine R_skip ?_ | refine R_exit ?_ | refine R_ret ?_ | refine I_true ?_ | refine I_false ?_ | refine N_exit ?_ | refine N_ret ?_
    | ((first | apply R_op | apply R_op0)
       · (first | (simp (maxDischargeDepth := 9) only [RA, Nat.reduceEqDiff, Nat.reduceLT, Nat.reduceLeDiff, Nat.reduceAdd, Nat.reduceSub, Nat.reduceMul, Nat.reduceDiv, Nat.reduceMod, Nat.reducePow, Nat.reduceBEq, Nat.reduceGT, reduceIte, rep8, T30, T38] <;> rfl) | ((repeat (first | (simp (maxDischargeDepth := 9) only [RA, Nat.reduceEqDiff, Nat.reduceLT, Nat.reduceLeDiff, Nat.reduceAdd, Nat.reduceSub, Nat.reduceMul, Nat.reduceDiv, Nat.reduceMod, Nat.reducePow, Nat.reduceBEq, Nat.reduceGT, reduceIte, rep8, T30, T38]; done) | simp (maxDischargeDepth := 9) only [RA, Nat.reduceEqDiff, Nat.reduceLT, Nat.reduceLeDiff, Nat.reduceAdd, Nat.reduceSub, Nat.reduceMul, Nat.reduceDiv, Nat.reduceMod, Nat.reducePow, Nat.reduceBEq, Nat.reduceGT, reduceIte, rep8, T30, T38] | simp (disch := first | assumption | omega) only [RV, rep8, T30, T38])) <;> rfl)))
    | (apply R_cond
       · (simp only [RE, Nat.reduceEqDiff, Nat.reduceLT, Nat.reduceLeDiff, Nat.reduceBEq, reduceIte, rep8, T30, T38] <;> rfl))
    | (apply R_grd
       · (simp only [yieldedA, RY, Nat.reduceEqDiff, reduceIte, rep8, T30, T38] <;> rfl)))
  refine R_fn ?_ (hmac68 q _ v w key b (hk.fr0 (by (repeat (first | assumption | exact Fr.refl _ _ | refine Fr.new ?_ ?_ _ _ _ | refine Fr.put ?_ ?_ _ | omega | (simp only [RH]; omega))))) (hb.fr0 (by (repeat (first | assumption | exact Fr.refl _ _ | refine Fr.new ?_ ?_ _ _ _ | refine Fr.put ?_ ?_ _ | omega | (simp only [RH]; omega))))) hkl hbl) ?_
  · rfl
  intro v1 h1 ⟨hv1, F1⟩
  subst hv1
  simp only [RH] at F1
  have n1 := F1.1
  have o0 := F1.2 h.nx (by omega)
  simp only [RH, rep8, Nat.reduceEqDiff, reduceIte] at o0
  have hml := hmacS_length key b
  have hcm := fun (kd : Kind) (es : Nat) => cut8 (k := kd) (es := es) hml
  have hpm := fun (H : Heap) (p : Nat) => puts8 (h := H) (b := p) (es := 1) hml (List.length_replicate (n := 32) (a := 0#8))
  have FE : Fr h.nx h h1 := (Fr.new (.refl _ _) (Nat.le_refl _) _ _ _).trans (F1.le (by omega))
  repeat (first
    | refine R_seq ?_ | refine R_region ?_ | refine R_nil ?_ | refine Q_seq ?_ | refine Q_norm ?_ | refine Q_seqr ?_ | refine Q_seqx ?_ | refine Q_bl ?_ | refine Q_blr ?_ | refine Q_blx ?_ | refine Q_blo rfl ?_ | refine R_block ?_ | refine R_skip ?_ | refine R_exit ?_ | refine R_ret ?_ | refine I_true ?_ | refine I_false ?_ | refine N_exit ?_ | refine N_ret ?_
    | ((first | apply R_op | apply R_op0)
       · (first | (simp (maxDischargeDepth := 9) only [RA, Nat.reduceEqDiff, Nat.reduceLT, Nat.reduceLeDiff, Nat.reduceAdd, Nat.reduceSub, Nat.reduceMul, Nat.reduceDiv, Nat.reduceMod, Nat.reducePow, Nat.reduceBEq, Nat.reduceGT, reduceIte, o0, hpm, T30, T38] <;> rfl) | ((repeat (first | (simp (maxDischargeDepth := 9) only [RA, Nat.reduceEqDiff, Nat.reduceLT, Nat.reduceLeDiff, Nat.reduceAdd, Nat.reduceSub, Nat.reduceMul, Nat.reduceDiv, Nat.reduceMod, Nat.reducePow, Nat.reduceBEq, Nat.reduceGT, reduceIte, o0, hpm, T30, T38]; done) | simp (maxDischargeDepth := 9) only [RA, Nat.reduceEqDiff, Nat.reduceLT, Nat.reduceLeDiff, Nat.reduceAdd, Nat.reduceSub, Nat.reduceMul, Nat.reduceDiv, Nat.reduceMod, Nat.reducePow, Nat.reduceBEq, Nat.reduceGT, reduceIte, o0, hpm, T30, T38] | simp (disch := first | assumption | omega) only [RV, o0, hpm, T30, T38])) <;> rfl)))
    | (apply R_cond
       · (simp only [RE, Nat.reduceEqDiff, Nat.reduceLT, Nat.reduceLeDiff, Nat.reduceBEq, reduceIte, o0, hpm, T30, T38] <;> rfl))
    | (apply R_grd
       · (simp only [yieldedA, RY, Nat.reduceEqDiff, reduceIte, o0, hpm, T30, T38] <;> rfl)))
  first | refine ⟨.inr rfl, ?_⟩ | refine ⟨.inl rfl, ?_⟩
  simp only [evResultList, evResult, ld30, RH, upd_apply, Nat.reduceEqDiff, reduceIte, hcm, Option.map_some]
  exact ⟨_, rfl, rfl, FE.put (Nat.le_refl _) _⟩
theorem inl76 : inlOf Try.prog 76 = true := by kernel_rfl
theorem iso76 : isoOf Try.prog 76 = false := by kernel_rfl
set_option maxRecDepth 20000 in
set_option maxHeartbeats 8000000 in
theorem ext76 (q : Nat) (h : Heap) (v w : Value) (key b : List (BitVec 8)) (hk : By h v key) (hb : By h w b) (hkl : key.length ≤ 1073741824) (hbl : b.length ≤ 1073741824) :
    ∃ v' h', fcall Try.prog (q + 8) (.func (.func 76) #[] #[]) [v, w] h = some (.ok v', h') ∧ v' = .agg ⟨b8 (hmacS key b)⟩ ∧ Fr h.nx h h' := by
  rw [fcall_inl inl76 iso76, evF_eq Try.func76 rfl]
  apply evEnd_of_W
  simp only [Try.f76]
  repeat (first
    | refine R_seq ?_ | refine R_region ?_ | refine R_nil ?_ | refine Q_seq ?_ | refine Q_norm ?_ | refine Q_seqr ?_ | refine Q_seqx ?_ | refine Q_bl ?_ | refine Q_blr ?_ | refine Q_blx ?_ | refine Q_blo rfl ?_ | refine R_block ?_ | refine R_skip ?_ | refine R_exit ?_ | refine R_ret ?_ | refine I_true ?_ | refine I_false ?_ | refine N_exit ?_ | refine N_ret ?_
    | ((first | apply R_op | apply R_op0)
       · (first | (simp (maxDischargeDepth := 9) only [RA, Nat.reduceEqDiff, Nat.reduceLT, Nat.reduceLeDiff, Nat.reduceAdd, Nat.reduceSub, Nat.reduceMul, Nat.reduceDiv, Nat.reduceMod, Nat.reducePow, Nat.reduceBEq, Nat.reduceGT, reduceIte, rep8, T30, T38] <;> rfl) | ((repeat (first | (simp (maxDischargeDepth := 9) only [RA, Nat.reduceEqDiff, Nat.reduceLT, Nat.reduceLeDiff, Nat.reduceAdd, Nat.reduceSub, Nat.reduceMul, Nat.reduceDiv, Nat.reduceMod, Nat.reducePow, Nat.reduceBEq, Nat.reduceGT, reduceIte, rep8, T30, T38]; done) | simp (maxDischargeDepth := 9) only [RA, Nat.reduceEqDiff, Nat.reduceLT, Nat.reduceLeDiff, Nat.reduceAdd, Nat.reduceSub, Nat.reduceMul, Nat.reduceDiv, Nat.reduceMod, Nat.reducePow, Nat.reduceBEq, Nat.reduceGT, reduceIte, rep8, T30, T38] | simp (disch := first | assumption | omega) only [RV, rep8, T30, T38])) <;> rfl)))
    | (apply R_cond
       · (simp only [RE, Nat.reduceEqDiff, Nat.reduceLT, Nat.reduceLeDiff, Nat.reduceBEq, reduceIte, rep8, T30, T38] <;> rfl))
    | (apply R_grd
       · (simp only [yieldedA, RY, Nat.reduceEqDiff, reduceIte, rep8, T30, T38] <;> rfl)))
  refine R_fn ?_ (hmac71 q _ v w key b (hk.fr0 (by (repeat (first | assumption | exact Fr.refl _ _ | refine Fr.new ?_ ?_ _ _ _ | refine Fr.put ?_ ?_ _ | omega | (simp only [RH]; omega))))) (hb.fr0 (by (repeat (first | assumption | exact Fr.refl _ _ | refine Fr.new ?_ ?_ _ _ _ | refine Fr.put ?_ ?_ _ | omega | (simp only [RH]; omega))))) hkl hbl) ?_
  · rfl
  intro v1 h1 ⟨hv1, F1⟩
  subst hv1
  simp only [RH] at F1
  have n1 := F1.1
  have o0 := F1.2 h.nx (by omega)
  simp only [RH, rep8, Nat.reduceEqDiff, reduceIte] at o0
  have hml := hmacS_length key b
  have hcm := fun (kd : Kind) (es : Nat) => cut8 (k := kd) (es := es) hml
  have hpm := fun (H : Heap) (p : Nat) => puts8 (h := H) (b := p) (es := 1) hml (List.length_replicate (n := 32) (a := 0#8))
  have FE : Fr h.nx h h1 := (Fr.new (.refl _ _) (Nat.le_refl _) _ _ _).trans (F1.le (by omega))
  repeat (first
    | refine R_seq ?_ | refine R_region ?_ | refine R_nil ?_ | refine Q_seq ?_ | refine Q_norm ?_ | refine Q_seqr ?_ | refine Q_seqx ?_ | refine Q_bl ?_ | refine Q_blr ?_ | refine Q_blx ?_ | refine Q_blo rfl ?_ | refine R_block ?_ | refine R_skip ?_ | refine R_exit ?_ | refine R_ret ?_ | refine I_true ?_ | refine I_false ?_ | refine N_exit ?_ | refine N_ret ?_
    | ((first | apply R_op | apply R_op0)
       · (first | (simp (maxDischargeDepth := 9) only [RA, Nat.reduceEqDiff, Nat.reduceLT, Nat.reduceLeDiff, Nat.reduceAdd, Nat.reduceSub, Nat.reduceMul, Nat.reduceDiv, Nat.reduceMod, Nat.reducePow, Nat.reduceBEq, Nat.reduceGT, reduceIte, o0, hpm, T30, T38] <;> rfl) | ((repeat (first | (simp (maxDischargeDepth := 9) only [RA, Nat.reduceEqDiff, Nat.reduceLT, Nat.reduceLeDiff, Nat.reduceAdd, Nat.reduceSub, Nat.reduceMul, Nat.reduceDiv, Nat.reduceMod, Nat.reducePow, Nat.reduceBEq, Nat.reduceGT, reduceIte, o0, hpm, T30, T38]; done) | simp (maxDischargeDepth := 9) only [RA, Nat.reduceEqDiff, Nat.reduceLT, Nat.reduceLeDiff, Nat.reduceAdd, Nat.reduceSub, Nat.reduceMul, Nat.reduceDiv, Nat.reduceMod, Nat.reducePow, Nat.reduceBEq, Nat.reduceGT, reduceIte, o0, hpm, T30, T38] | simp (disch := first | assumption | omega) only [RV, o0, hpm, T30, T38])) <;> rfl)))
    | (apply R_cond
       · (simp only [RE, Nat.reduceEqDiff, Nat.reduceLT, Nat.reduceLeDiff, Nat.reduceBEq, reduceIte, o0, hpm, T30, T38] <;> rfl))
    | (apply R_grd
       · (simp only [yieldedA, RY, Nat.reduceEqDiff, reduceIte, o0, hpm, T30, T38] <;> rfl)))
  first | refine ⟨.inr rfl, ?_⟩ | refine ⟨.inl rfl, ?_⟩
  simp only [evResultList, evResult, ld30, RH, upd_apply, Nat.reduceEqDiff, reduceIte, hcm, Option.map_some]
  exact ⟨_, rfl, rfl, FE.put (Nat.le_refl _) _⟩
end Go.Proofs.Ytfehhihllenjiaa
