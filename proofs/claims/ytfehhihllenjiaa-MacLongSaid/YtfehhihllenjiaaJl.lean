/- Tags: keys that are long. -/
import Derived.Test.YtfehhihllenjiaaJh
set_option linter.all false
namespace Go.Proofs.Ytfehhihllenjiaa
open Go.Proofs
theorem hmacS_long {k : List (BitVec 8)} (hl : 64 < k.length) (b : List (BitVec 8)) : hmacS (sumS k) b = hmacS k b := by
  have h1 : keyS k = sumS k := by unfold keyS; exact if_pos hl
  have h2 : keyS (sumS k) = sumS k := by
    unfold keyS
    exact if_neg (by rw [sumS_len]; decide)
  unfold hmacS padK
  rw [h1, h2]
theorem hmacS_zeros {k : List (BitVec 8)} {m : Nat} (hl : k.length + m ≤ 64) (b : List (BitVec 8)) : hmacS (k ++ List.replicate m 0#8) b = hmacS k b := by
  have h1 : keyS k = k := by unfold keyS; exact if_neg (by omega)
  have h2 : keyS (k ++ List.replicate m 0#8) = k ++ List.replicate m 0#8 := by unfold keyS; exact if_neg (by simp; omega)
  have h3 : padK (k ++ List.replicate m 0#8) = padK k := by
    unfold padK
    rw [h1, h2, List.append_assoc]
    congr 1
    rw [List.drop_replicate, List.drop_replicate, List.replicate_append_replicate]
    congr 1
    simp; omega
  unfold hmacS
  rw [h3]
attribute [local irreducible] evOps iter evD evF evC evLoad evStore evAlloc evIndexAddr evIndex evLenB evBox evBin evUn evConvert evExtract evSlice evAppend evCopy evNil evBuild evMakeSlice evBuildSlice evBuiltin Program.underlying
attribute [local irreducible] sumS turnB keyS padK hmacS turnR catN expT expO expS key1
set_option maxRecDepth 20000 in
set_option maxHeartbeats 8000000 in
theorem law27 (h : Heap) (v w : Value) (k b : List (BitVec 8)) (hk : By h v k) (hb : By h w b) (x : BitVec 8) : ∃ v1 h1, evF (cfg0 Try.prog) 12 27 [v, w, w8 x] h = some (.ok v1, h1) ∧ v1 = .bool true := by
  rw [evF_eq Try.func27 rfl]
  apply evEnd_of_W
  simp only [Try.f27]
  obtain ⟨v2, e2, k2, r2⟩ := few69 10 _ v k 200 hk
  obtain ⟨v3, e3, b3, r3⟩ := few69 10 _ w b 200 hb
  have hkl : (k.take 200).length ≤ 200 := by simp; omega
  have hbl : (b.take 200).length ≤ 200 := by simp; omega
  generalize k.take 200 = k at k2 hkl
  generalize b.take 200 = b at b3 hbl
  have hx := x.isLt
  have hx2 : x.toNat < 9223372036854775808 := by omega
  by_cases h64 : 64 < k.length
  · repeat (first
    | refine R_seq ?_ | refine R_region ?_ | refine R_nil ?_ | refine Q_seq ?_ | refine Q_norm ?_ | refine Q_seqr ?_ | refine Q_seqx ?_ | refine Q_bl ?_ | refine Q_blr ?_ | refine Q_blx ?_ | refine Q_blo rfl ?_ | refine R_block ?_ | refine R_skip ?_ | refine R_exit ?_ | refine R_ret ?_ | refine I_true ?_ | refine I_false ?_ | refine N_exit ?_ | refine N_ret ?_
    | ((first | apply R_op | apply R_op0)
       · (first | (simp (maxDischargeDepth := 9) only [RA, Nat.reduceEqDiff, Nat.reduceLT, Nat.reduceLeDiff, Nat.reduceAdd, Nat.reduceSub, Nat.reduceMul, Nat.reduceDiv, Nat.reduceMod, Nat.reducePow, Nat.reduceBEq, Nat.reduceGT, reduceIte, e2, e3, S38len k2, h64, T1, T3, T5, T30, T38, cv8_i Try.underlying5 Try.underlying3] <;> rfl) | ((repeat (first | (simp (maxDischargeDepth := 9) only [RA, Nat.reduceEqDiff, Nat.reduceLT, Nat.reduceLeDiff, Nat.reduceAdd, Nat.reduceSub, Nat.reduceMul, Nat.reduceDiv, Nat.reduceMod, Nat.reducePow, Nat.reduceBEq, Nat.reduceGT, reduceIte, e2, e3, S38len k2, h64, T1, T3, T5, T30, T38, cv8_i Try.underlying5 Try.underlying3]; done) | simp (maxDischargeDepth := 9) only [RA, Nat.reduceEqDiff, Nat.reduceLT, Nat.reduceLeDiff, Nat.reduceAdd, Nat.reduceSub, Nat.reduceMul, Nat.reduceDiv, Nat.reduceMod, Nat.reducePow, Nat.reduceBEq, Nat.reduceGT, reduceIte, e2, e3, S38len k2, h64, T1, T3, T5, T30, T38, cv8_i Try.underlying5 Try.underlying3] | simp (disch := first | assumption | omega) only [RV, e2, e3, S38len k2, h64, T1, T3, T5, T30, T38, cv8_i Try.underlying5 Try.underlying3])) <;> rfl)))
    | (apply R_cond
       · (simp only [RE, Nat.reduceEqDiff, Nat.reduceLT, Nat.reduceLeDiff, Nat.reduceBEq, reduceIte, e2, e3, S38len k2, h64, T1, T3, T5, T30, T38, cv8_i Try.underlying5 Try.underlying3] <;> rfl))
    | (apply R_grd
       · (simp only [yieldedA, RY, Nat.reduceEqDiff, reduceIte, e2, e3, S38len k2, h64, T1, T3, T5, T30, T38, cv8_i Try.underlying5 Try.underlying3] <;> rfl)))
    refine R_fn ?_ (sum52 4 h v2 k k2 (by omega)) ?_
    · rfl
    intro v4 h4 ⟨hv4, F4⟩
    subst hv4
    have hsl := sumS_len k
    have hp8 := fun (H : Heap) (p : Nat) => puts8 (h := H) (b := p) (es := 1) hsl (List.length_replicate (n := 32) (a := 0#8))
    repeat (first
      | refine R_seq ?_ | refine R_region ?_ | refine R_nil ?_ | refine Q_seq ?_ | refine Q_norm ?_ | refine Q_seqr ?_ | refine Q_seqx ?_ | refine Q_bl ?_ | refine Q_blr ?_ | refine Q_blx ?_ | refine Q_blo rfl ?_ | refine R_block ?_ | refine R_skip ?_ | refine R_exit ?_ | refine R_ret ?_ | refine I_true ?_ | refine I_false ?_ | refine N_exit ?_ | refine N_ret ?_
      | ((first | apply R_op | apply R_op0)
         · (first | (simp (maxDischargeDepth := 9) only [RA, Nat.reduceEqDiff, Nat.reduceLT, Nat.reduceLeDiff, Nat.reduceAdd, Nat.reduceSub, Nat.reduceMul, Nat.reduceDiv, Nat.reduceMod, Nat.reducePow, Nat.reduceBEq, Nat.reduceGT, reduceIte, hp8, rep8, T1, T3, T5, T30, T38, cv8_i Try.underlying5 Try.underlying3] <;> rfl) | ((repeat (first | (simp (maxDischargeDepth := 9) only [RA, Nat.reduceEqDiff, Nat.reduceLT, Nat.reduceLeDiff, Nat.reduceAdd, Nat.reduceSub, Nat.reduceMul, Nat.reduceDiv, Nat.reduceMod, Nat.reducePow, Nat.reduceBEq, Nat.reduceGT, reduceIte, hp8, rep8, T1, T3, T5, T30, T38, cv8_i Try.underlying5 Try.underlying3]; done) | simp (maxDischargeDepth := 9) only [RA, Nat.reduceEqDiff, Nat.reduceLT, Nat.reduceLeDiff, Nat.reduceAdd, Nat.reduceSub, Nat.reduceMul, Nat.reduceDiv, Nat.reduceMod, Nat.reducePow, Nat.reduceBEq, Nat.reduceGT, reduceIte, hp8, rep8, T1, T3, T5, T30, T38, cv8_i Try.underlying5 Try.underlying3] | simp (disch := first | assumption | omega) only [RV, hp8, rep8, T1, T3, T5, T30, T38, cv8_i Try.underlying5 Try.underlying3])) <;> rfl)))
      | (apply R_cond
         · (simp only [RE, Nat.reduceEqDiff, Nat.reduceLT, Nat.reduceLeDiff, Nat.reduceBEq, reduceIte, hp8, rep8, T1, T3, T5, T30, T38, cv8_i Try.underlying5 Try.underlying3] <;> rfl))
      | (apply R_grd
         · (simp only [yieldedA, RY, Nat.reduceEqDiff, reduceIte, hp8, rep8, T1, T3, T5, T30, T38, cv8_i Try.underlying5 Try.underlying3] <;> rfl)))
    obtain ⟨H, hH⟩ : ∃ H, H = (newRowH h4 .rw 1 (b8 (List.replicate 32 0#8))).put h4.nx (some (AObj.row .rw 1 (b8 (sumS k)))) := ⟨_, rfl⟩
    rw [← hH]
    have oM : H.obj h4.nx = some (.row .rw 1 (b8 (sumS k))) := by rw [hH]; simp [RH]
    have nM : h4.nx < H.nx := by rw [hH]; simp [RH]
    have FM : Fr h4.nx h4 H := by rw [hH]; (repeat (first | assumption | exact Fr.refl _ _ | refine Fr.new ?_ ?_ _ _ _ | refine Fr.put ?_ ?_ _ | omega | (simp only [RH]; omega)))
    clear hH
    have k2H : By H v2 k := (k2.fr0 F4).fr0 FM
    have b3H : By H v3 b := (b3.fr0 F4).fr0 FM
    have bM : By H (.slice (some ⟨h4.nx, 0, none⟩) 32 32) (sumS k) := by_row (k := .rw) nM oM (Nat.le_refl _) hsl
    refine D_draw [0, 4, 5, 7] (fun _ => True) (by kernel_rfl) ?_
    repeat (first
      | refine D_nil ?_ | refine I_true ?_ | refine I_false ?_
      | ((first | apply D_op | apply D_op0)
         · (first | (simp (maxDischargeDepth := 9) only [RA, Nat.reduceEqDiff, Nat.reduceLT, Nat.reduceLeDiff, Nat.reduceAdd, Nat.reduceSub, Nat.reduceMul, Nat.reduceDiv, Nat.reduceMod, Nat.reducePow, Nat.reduceBEq, Nat.reduceGT, reduceIte, live70 0, T1, T3, T5, T30, T38, cv8_i Try.underlying5 Try.underlying3] <;> rfl) | ((repeat (first | (simp (maxDischargeDepth := 9) only [RA, Nat.reduceEqDiff, Nat.reduceLT, Nat.reduceLeDiff, Nat.reduceAdd, Nat.reduceSub, Nat.reduceMul, Nat.reduceDiv, Nat.reduceMod, Nat.reducePow, Nat.reduceBEq, Nat.reduceGT, reduceIte, live70 0, T1, T3, T5, T30, T38, cv8_i Try.underlying5 Try.underlying3]; done) | simp (maxDischargeDepth := 9) only [RA, Nat.reduceEqDiff, Nat.reduceLT, Nat.reduceLeDiff, Nat.reduceAdd, Nat.reduceSub, Nat.reduceMul, Nat.reduceDiv, Nat.reduceMod, Nat.reducePow, Nat.reduceBEq, Nat.reduceGT, reduceIte, live70 0, T1, T3, T5, T30, T38, cv8_i Try.underlying5 Try.underlying3] | simp (disch := first | assumption | omega) only [RV, live70 0, T1, T3, T5, T30, T38, cv8_i Try.underlying5 Try.underlying3])) <;> rfl))
         · (intro hF; first | exact chk_pure rfl | exact chk_alloc rfl | exact chk_read rfl | exact chk_iso iso52 | exact chk_call iso52 (fun _ _ _ => rfl) | exact chk_iso iso68 | exact chk_call iso68 (fun _ _ _ => rfl) | exact chk_iso iso69 | exact chk_call iso69 (fun _ _ _ => rfl) | exact chk_iso iso70 | exact chk_call iso70 (fun _ _ _ => rfl) | (exfalso; revert hF; decide) | ((first | refine chk_load ?_ | refine chk_slice ?_ | refine chk_convert ?_ | refine chk_store ?_ | refine chk_call (by kernel_rfl) ?_); simp only [eq_self, ev_tmp, upd_apply, rowsOfV, List.mem_cons, List.not_mem_nil, or_false, forall_eq, forall_eq_or_imp, obj_put, obj_new, nx_new, nx_put, Nat.reduceEqDiff, if_true, if_false, reduceIte, implies_true, and_self, and_true, true_or, or_true, live70 0, T1, T3, T5, T30, T38, cv8_i Try.underlying5 Try.underlying3])))
      | (apply D_grd
         · (simp only [yieldedA, RY, Nat.reduceEqDiff, reduceIte, live70 0, T1, T3, T5, T30, T38, cv8_i Try.underlying5 Try.underlying3] <;> rfl)))
    refine D_fn ?_ (hmac68 2 H v2 v3 k b k2H b3H (by omega) (by omega)) iso68 (fun v4 h4 hp _ r _ hr => hp.2.2 r hr) ?_
    · rfl
    intro v5 h5 ⟨hv5, F5⟩
    subst hv5
    repeat (first
      | refine D_nil ?_ | refine I_true ?_ | refine I_false ?_
      | ((first | apply D_op | apply D_op0)
         · (first | (simp (maxDischargeDepth := 9) only [RA, Nat.reduceEqDiff, Nat.reduceLT, Nat.reduceLeDiff, Nat.reduceAdd, Nat.reduceSub, Nat.reduceMul, Nat.reduceDiv, Nat.reduceMod, Nat.reducePow, Nat.reduceBEq, Nat.reduceGT, reduceIte, T1, T3, T5, T30, T38, cv8_i Try.underlying5 Try.underlying3] <;> rfl) | ((repeat (first | (simp (maxDischargeDepth := 9) only [RA, Nat.reduceEqDiff, Nat.reduceLT, Nat.reduceLeDiff, Nat.reduceAdd, Nat.reduceSub, Nat.reduceMul, Nat.reduceDiv, Nat.reduceMod, Nat.reducePow, Nat.reduceBEq, Nat.reduceGT, reduceIte, T1, T3, T5, T30, T38, cv8_i Try.underlying5 Try.underlying3]; done) | simp (maxDischargeDepth := 9) only [RA, Nat.reduceEqDiff, Nat.reduceLT, Nat.reduceLeDiff, Nat.reduceAdd, Nat.reduceSub, Nat.reduceMul, Nat.reduceDiv, Nat.reduceMod, Nat.reducePow, Nat.reduceBEq, Nat.reduceGT, reduceIte, T1, T3, T5, T30, T38, cv8_i Try.underlying5 Try.underlying3] | simp (disch := first | assumption | omega) only [RV, T1, T3, T5, T30, T38, cv8_i Try.underlying5 Try.underlying3])) <;> rfl))
         · (intro hF; first | exact chk_pure rfl | exact chk_alloc rfl | exact chk_read rfl | exact chk_iso iso52 | exact chk_call iso52 (fun _ _ _ => rfl) | exact chk_iso iso68 | exact chk_call iso68 (fun _ _ _ => rfl) | exact chk_iso iso69 | exact chk_call iso69 (fun _ _ _ => rfl) | exact chk_iso iso70 | exact chk_call iso70 (fun _ _ _ => rfl) | (exfalso; revert hF; decide) | ((first | refine chk_load ?_ | refine chk_slice ?_ | refine chk_convert ?_ | refine chk_store ?_ | refine chk_call (by kernel_rfl) ?_); simp only [eq_self, ev_tmp, upd_apply, rowsOfV, List.mem_cons, List.not_mem_nil, or_false, forall_eq, forall_eq_or_imp, obj_put, obj_new, nx_new, nx_put, Nat.reduceEqDiff, if_true, if_false, reduceIte, implies_true, and_self, and_true, true_or, or_true, T1, T3, T5, T30, T38, cv8_i Try.underlying5 Try.underlying3])))
      | (apply D_grd
         · (simp only [yieldedA, RY, Nat.reduceEqDiff, reduceIte, T1, T3, T5, T30, T38, cv8_i Try.underlying5 Try.underlying3] <;> rfl)))
    refine D_fn ?_ (hmac68 2 h5 (.slice (some ⟨h4.nx, 0, none⟩) 32 32) v3 (sumS k) b (bM.fr0 F5) (b3H.fr0 F5) (by omega) (by omega)) iso68 (fun v4 h4 hp _ r _ hr => hp.2.2 r hr) ?_
    · rfl
    intro v6 h6 ⟨hv6, F6⟩
    rw [hmacS_long h64] at hv6
    subst hv6
    repeat (first
      | refine D_nil ?_ | refine I_true ?_ | refine I_false ?_
      | ((first | apply D_op | apply D_op0)
         · (first | (simp (maxDischargeDepth := 9) only [RA, Nat.reduceEqDiff, Nat.reduceLT, Nat.reduceLeDiff, Nat.reduceAdd, Nat.reduceSub, Nat.reduceMul, Nat.reduceDiv, Nat.reduceMod, Nat.reducePow, Nat.reduceBEq, Nat.reduceGT, reduceIte, beq30 (hmacS_length k b) (hmacS_length k b), T1, T3, T5, T30, T38, cv8_i Try.underlying5 Try.underlying3] <;> rfl) | ((repeat (first | (simp (maxDischargeDepth := 9) only [RA, Nat.reduceEqDiff, Nat.reduceLT, Nat.reduceLeDiff, Nat.reduceAdd, Nat.reduceSub, Nat.reduceMul, Nat.reduceDiv, Nat.reduceMod, Nat.reducePow, Nat.reduceBEq, Nat.reduceGT, reduceIte, beq30 (hmacS_length k b) (hmacS_length k b), T1, T3, T5, T30, T38, cv8_i Try.underlying5 Try.underlying3]; done) | simp (maxDischargeDepth := 9) only [RA, Nat.reduceEqDiff, Nat.reduceLT, Nat.reduceLeDiff, Nat.reduceAdd, Nat.reduceSub, Nat.reduceMul, Nat.reduceDiv, Nat.reduceMod, Nat.reducePow, Nat.reduceBEq, Nat.reduceGT, reduceIte, beq30 (hmacS_length k b) (hmacS_length k b), T1, T3, T5, T30, T38, cv8_i Try.underlying5 Try.underlying3] | simp (disch := first | assumption | omega) only [RV, beq30 (hmacS_length k b) (hmacS_length k b), T1, T3, T5, T30, T38, cv8_i Try.underlying5 Try.underlying3])) <;> rfl))
         · (intro hF; first | exact chk_pure rfl | exact chk_alloc rfl | exact chk_read rfl | exact chk_iso iso52 | exact chk_call iso52 (fun _ _ _ => rfl) | exact chk_iso iso68 | exact chk_call iso68 (fun _ _ _ => rfl) | exact chk_iso iso69 | exact chk_call iso69 (fun _ _ _ => rfl) | exact chk_iso iso70 | exact chk_call iso70 (fun _ _ _ => rfl) | (exfalso; revert hF; decide) | ((first | refine chk_load ?_ | refine chk_slice ?_ | refine chk_convert ?_ | refine chk_store ?_ | refine chk_call (by kernel_rfl) ?_); simp only [eq_self, ev_tmp, upd_apply, rowsOfV, List.mem_cons, List.not_mem_nil, or_false, forall_eq, forall_eq_or_imp, obj_put, obj_new, nx_new, nx_put, Nat.reduceEqDiff, if_true, if_false, reduceIte, implies_true, and_self, and_true, true_or, or_true, beq30 (hmacS_length k b) (hmacS_length k b), T1, T3, T5, T30, T38, cv8_i Try.underlying5 Try.underlying3])))
      | (apply D_grd
         · (simp only [yieldedA, RY, Nat.reduceEqDiff, reduceIte, beq30 (hmacS_length k b) (hmacS_length k b), T1, T3, T5, T30, T38, cv8_i Try.underlying5 Try.underlying3] <;> rfl)))
    repeat (first
      | refine R_seq ?_ | refine R_region ?_ | refine R_nil ?_ | refine Q_seq ?_ | refine Q_norm ?_ | refine Q_seqr ?_ | refine Q_seqx ?_ | refine Q_bl ?_ | refine Q_blr ?_ | refine Q_blx ?_ | refine Q_blo rfl ?_ | refine R_block ?_ | refine R_skip ?_ | refine R_exit ?_ | refine R_ret ?_ | refine I_true ?_ | refine I_false ?_ | refine N_exit ?_ | refine N_ret ?_
      | ((first | apply R_op | apply R_op0)
         · (first | (simp (maxDischargeDepth := 9) only [RA, Nat.reduceEqDiff, Nat.reduceLT, Nat.reduceLeDiff, Nat.reduceAdd, Nat.reduceSub, Nat.reduceMul, Nat.reduceDiv, Nat.reduceMod, Nat.reducePow, Nat.reduceBEq, Nat.reduceGT, reduceIte, T1, T3, T5, T30, T38, cv8_i Try.underlying5 Try.underlying3] <;> rfl) | ((repeat (first | (simp (maxDischargeDepth := 9) only [RA, Nat.reduceEqDiff, Nat.reduceLT, Nat.reduceLeDiff, Nat.reduceAdd, Nat.reduceSub, Nat.reduceMul, Nat.reduceDiv, Nat.reduceMod, Nat.reducePow, Nat.reduceBEq, Nat.reduceGT, reduceIte, T1, T3, T5, T30, T38, cv8_i Try.underlying5 Try.underlying3]; done) | simp (maxDischargeDepth := 9) only [RA, Nat.reduceEqDiff, Nat.reduceLT, Nat.reduceLeDiff, Nat.reduceAdd, Nat.reduceSub, Nat.reduceMul, Nat.reduceDiv, Nat.reduceMod, Nat.reducePow, Nat.reduceBEq, Nat.reduceGT, reduceIte, T1, T3, T5, T30, T38, cv8_i Try.underlying5 Try.underlying3] | simp (disch := first | assumption | omega) only [RV, T1, T3, T5, T30, T38, cv8_i Try.underlying5 Try.underlying3])) <;> rfl)))
      | (apply R_cond
         · (simp only [RE, Nat.reduceEqDiff, Nat.reduceLT, Nat.reduceLeDiff, Nat.reduceBEq, reduceIte, T1, T3, T5, T30, T38, cv8_i Try.underlying5 Try.underlying3] <;> rfl))
      | (apply R_grd
         · (simp only [yieldedA, RY, Nat.reduceEqDiff, reduceIte, T1, T3, T5, T30, T38, cv8_i Try.underlying5 Try.underlying3] <;> rfl)))
    (first | refine ⟨.inr rfl, _, rfl, ?_⟩ | refine ⟨.inl rfl, _, rfl, ?_⟩) <;> simp only [packR, upd_apply, Nat.reduceEqDiff, if_true, if_false, reduceIte]
  · repeat (first
    | refine R_seq ?_ | refine R_region ?_ | refine R_nil ?_ | refine Q_seq ?_ | refine Q_norm ?_ | refine Q_seqr ?_ | refine Q_seqx ?_ | refine Q_bl ?_ | refine Q_blr ?_ | refine Q_blx ?_ | refine Q_blo rfl ?_ | refine R_block ?_ | refine R_skip ?_ | refine R_exit ?_ | refine R_ret ?_ | refine I_true ?_ | refine I_false ?_ | refine N_exit ?_ | refine N_ret ?_
    | ((first | apply R_op | apply R_op0)
       · (first | (simp (maxDischargeDepth := 9) only [RA, Nat.reduceEqDiff, Nat.reduceLT, Nat.reduceLeDiff, Nat.reduceAdd, Nat.reduceSub, Nat.reduceMul, Nat.reduceDiv, Nat.reduceMod, Nat.reducePow, Nat.reduceBEq, Nat.reduceGT, reduceIte, e2, e3, S38len k2, h64, T1, T3, T5, T30, T38, cv8_i Try.underlying5 Try.underlying3] <;> rfl) | ((repeat (first | (simp (maxDischargeDepth := 9) only [RA, Nat.reduceEqDiff, Nat.reduceLT, Nat.reduceLeDiff, Nat.reduceAdd, Nat.reduceSub, Nat.reduceMul, Nat.reduceDiv, Nat.reduceMod, Nat.reducePow, Nat.reduceBEq, Nat.reduceGT, reduceIte, e2, e3, S38len k2, h64, T1, T3, T5, T30, T38, cv8_i Try.underlying5 Try.underlying3]; done) | simp (maxDischargeDepth := 9) only [RA, Nat.reduceEqDiff, Nat.reduceLT, Nat.reduceLeDiff, Nat.reduceAdd, Nat.reduceSub, Nat.reduceMul, Nat.reduceDiv, Nat.reduceMod, Nat.reducePow, Nat.reduceBEq, Nat.reduceGT, reduceIte, e2, e3, S38len k2, h64, T1, T3, T5, T30, T38, cv8_i Try.underlying5 Try.underlying3] | simp (disch := first | assumption | omega) only [RV, e2, e3, S38len k2, h64, T1, T3, T5, T30, T38, cv8_i Try.underlying5 Try.underlying3])) <;> rfl)))
    | (apply R_cond
       · (simp only [RE, Nat.reduceEqDiff, Nat.reduceLT, Nat.reduceLeDiff, Nat.reduceBEq, reduceIte, e2, e3, S38len k2, h64, T1, T3, T5, T30, T38, cv8_i Try.underlying5 Try.underlying3] <;> rfl))
    | (apply R_grd
       · (simp only [yieldedA, RY, Nat.reduceEqDiff, reduceIte, e2, e3, S38len k2, h64, T1, T3, T5, T30, T38, cv8_i Try.underlying5 Try.underlying3] <;> rfl)))
    refine R_app E38 Try.underlying38 (v := emptyS) (w := v2) (lo := h.nx) (xs := []) (ys := k) ?_ ?_ .empty k2 (Nat.le_refl _) (by simp; omega) ?_
    · first | rfl | (first | rw [ev_tmp] | rw [ev_const] | skip) <;> simp only [upd_apply, Nat.reduceEqDiff, if_true, if_false, reduceIte, lit_iv, lit_w8]
    · first | rfl | (first | rw [ev_tmp] | rw [ev_const] | skip) <;> simp only [upd_apply, Nat.reduceEqDiff, if_true, if_false, reduceIte, lit_iv, lit_w8]
    intro v4 h4 own4 wt4
    rw [List.nil_append] at own4
    have F4 : Fr h.nx h h4 := wt4.fr (Nat.le_refl _) (fun r hr => by simp [rowsOfV, emptyS] at hr)
    repeat (first
      | refine R_seq ?_ | refine R_region ?_ | refine R_nil ?_ | refine Q_seq ?_ | refine Q_norm ?_ | refine Q_seqr ?_ | refine Q_seqx ?_ | refine Q_bl ?_ | refine Q_blr ?_ | refine Q_blx ?_ | refine Q_blo rfl ?_ | refine R_block ?_ | refine R_skip ?_ | refine R_exit ?_ | refine R_ret ?_ | refine I_true ?_ | refine I_false ?_ | refine N_exit ?_ | refine N_ret ?_
      | ((first | apply R_op | apply R_op0)
         · (first | (simp (maxDischargeDepth := 9) only [RA, Nat.reduceEqDiff, Nat.reduceLT, Nat.reduceLeDiff, Nat.reduceAdd, Nat.reduceSub, Nat.reduceMul, Nat.reduceDiv, Nat.reduceMod, Nat.reducePow, Nat.reduceBEq, Nat.reduceGT, reduceIte, T1, T3, T5, T30, T38, cv8_i Try.underlying5 Try.underlying3] <;> rfl) | ((repeat (first | (simp (maxDischargeDepth := 9) only [RA, Nat.reduceEqDiff, Nat.reduceLT, Nat.reduceLeDiff, Nat.reduceAdd, Nat.reduceSub, Nat.reduceMul, Nat.reduceDiv, Nat.reduceMod, Nat.reducePow, Nat.reduceBEq, Nat.reduceGT, reduceIte, T1, T3, T5, T30, T38, cv8_i Try.underlying5 Try.underlying3]; done) | simp (maxDischargeDepth := 9) only [RA, Nat.reduceEqDiff, Nat.reduceLT, Nat.reduceLeDiff, Nat.reduceAdd, Nat.reduceSub, Nat.reduceMul, Nat.reduceDiv, Nat.reduceMod, Nat.reducePow, Nat.reduceBEq, Nat.reduceGT, reduceIte, T1, T3, T5, T30, T38, cv8_i Try.underlying5 Try.underlying3] | simp (disch := first | assumption | omega) only [RV, T1, T3, T5, T30, T38, cv8_i Try.underlying5 Try.underlying3])) <;> rfl)))
      | (apply R_cond
         · (simp only [RE, Nat.reduceEqDiff, Nat.reduceLT, Nat.reduceLeDiff, Nat.reduceBEq, reduceIte, T1, T3, T5, T30, T38, cv8_i Try.underlying5 Try.underlying3] <;> rfl))
      | (apply R_grd
         · (simp only [yieldedA, RY, Nat.reduceEqDiff, reduceIte, T1, T3, T5, T30, T38, cv8_i Try.underlying5 Try.underlying3] <;> rfl)))
    refine W_loopK [0, 1, 2, 48, 49, 50, 51, 52, 53, 54] [] (fun j e5 h5 => e5 9 = iv j ∧ OwB h.nx h5 (e5 8) (k ++ List.replicate j 0#8) ∧ Fr h.nx h h5) (min x.toNat (64 - k.length)) (by omega) ?_ ?_ ?_
    · exact ⟨by (try simp only [List.map_cons, List.map_nil, RH, Nat.reduceAdd, Nat.reduceEqDiff, reduceIte, ev_tmp, ev_const, lit_iv, lit_w8, lit_w32, lit_w64, envOf0, envOf1, envOf2, envOf3, envOf4, envOf5, T1, T3, T5, T30, T38, cv8_i Try.underlying5 Try.underlying3]), by (try simp only [List.map_cons, List.map_nil, RH, Nat.reduceAdd, Nat.reduceEqDiff, reduceIte, ev_tmp, ev_const, lit_iv, lit_w8, lit_w32, lit_w64, envOf0, envOf1, envOf2, envOf3, envOf4, envOf5, List.replicate_zero, List.append_nil, T1, T3, T5, T30, T38, cv8_i Try.underlying5 Try.underlying3]); exact own4, F4⟩
    · intro j hj e5 h5 hK hO hN ⟨j9, own5, F5⟩
      simp only [List.map_cons, List.map_nil, List.cons.injEq, and_true, RH, Nat.reduceAdd, Nat.reduceEqDiff, reduceIte, envOf0, envOf1, envOf2, envOf3, envOf4, envOf5] at hK
      obtain ⟨K0_0, K0_1, K0_2, K0_48, K0_49, K0_50, K0_51, K0_52, K0_53, K0_54⟩ := hK
      try simp only [RH] at hN
      have hjx : j < x.toNat := by omega
      have hjl : (k ++ List.replicate j 0#8).length < 64 := by simp; omega
      have l5 := S38len own5.sl
      generalize hL : (k ++ List.replicate j 0#8).length = L at hjl l5
      repeat (first
        | refine R_seq ?_ | refine R_region ?_ | refine R_nil ?_ | refine Q_seq ?_ | refine Q_norm ?_ | refine Q_seqr ?_ | refine Q_seqx ?_ | refine Q_bl ?_ | refine Q_blr ?_ | refine Q_blx ?_ | refine Q_blo rfl ?_ | refine R_block ?_ | refine R_skip ?_ | refine R_exit ?_ | refine R_ret ?_ | refine I_true ?_ | refine I_false ?_ | refine N_exit ?_ | refine N_ret ?_
        | ((first | apply R_op | apply R_op0)
           · (first | (simp (maxDischargeDepth := 9) only [RA, Nat.reduceEqDiff, Nat.reduceLT, Nat.reduceLeDiff, Nat.reduceAdd, Nat.reduceSub, Nat.reduceMul, Nat.reduceDiv, Nat.reduceMod, Nat.reducePow, Nat.reduceBEq, Nat.reduceGT, reduceIte, j9, hjx, hx2, hjl, l5, T1, T3, T5, T30, T38, cv8_i Try.underlying5 Try.underlying3, K0_0, K0_1, K0_2, K0_48, K0_49, K0_50, K0_51, K0_52, K0_53, K0_54] <;> rfl) | ((repeat (first | (simp (maxDischargeDepth := 9) only [RA, Nat.reduceEqDiff, Nat.reduceLT, Nat.reduceLeDiff, Nat.reduceAdd, Nat.reduceSub, Nat.reduceMul, Nat.reduceDiv, Nat.reduceMod, Nat.reducePow, Nat.reduceBEq, Nat.reduceGT, reduceIte, j9, hjx, hx2, hjl, l5, T1, T3, T5, T30, T38, cv8_i Try.underlying5 Try.underlying3, K0_0, K0_1, K0_2, K0_48, K0_49, K0_50, K0_51, K0_52, K0_53, K0_54]; done) | simp (maxDischargeDepth := 9) only [RA, Nat.reduceEqDiff, Nat.reduceLT, Nat.reduceLeDiff, Nat.reduceAdd, Nat.reduceSub, Nat.reduceMul, Nat.reduceDiv, Nat.reduceMod, Nat.reducePow, Nat.reduceBEq, Nat.reduceGT, reduceIte, j9, hjx, hx2, hjl, l5, T1, T3, T5, T30, T38, cv8_i Try.underlying5 Try.underlying3, K0_0, K0_1, K0_2, K0_48, K0_49, K0_50, K0_51, K0_52, K0_53, K0_54] | simp (disch := first | assumption | omega) only [RV, j9, hjx, hx2, hjl, l5, T1, T3, T5, T30, T38, cv8_i Try.underlying5 Try.underlying3, K0_0, K0_1, K0_2, K0_48, K0_49, K0_50, K0_51, K0_52, K0_53, K0_54])) <;> rfl)))
        | (apply R_cond
           · (simp only [RE, Nat.reduceEqDiff, Nat.reduceLT, Nat.reduceLeDiff, Nat.reduceBEq, reduceIte, j9, hjx, hx2, hjl, l5, T1, T3, T5, T30, T38, cv8_i Try.underlying5 Try.underlying3, K0_0, K0_1, K0_2, K0_48, K0_49, K0_50, K0_51, K0_52, K0_53, K0_54] <;> rfl))
        | (apply R_grd
           · (simp only [yieldedA, RY, Nat.reduceEqDiff, reduceIte, j9, hjx, hx2, hjl, l5, T1, T3, T5, T30, T38, cv8_i Try.underlying5 Try.underlying3, K0_0, K0_1, K0_2, K0_48, K0_49, K0_50, K0_51, K0_52, K0_53, K0_54] <;> rfl)))
      refine R_app E38 Try.underlying38 (v := e5 8) (w := .slice (some ⟨h5.nx, 0, none⟩) 1 1) (lo := h.nx) (xs := k ++ List.replicate j 0#8) (ys := [0#8]) ?_ ?_ own5.new one_by (by simp only [RH]; have := F5.1; omega) (by simp; omega) ?_
      · first | rfl | (first | rw [ev_tmp] | rw [ev_const] | skip) <;> simp only [upd_apply, Nat.reduceEqDiff, if_true, if_false, reduceIte, lit_iv, lit_w8, K0_0, K0_1, K0_2, K0_48, K0_49, K0_50, K0_51, K0_52, K0_53, K0_54]
      · first | rfl | (first | rw [ev_tmp] | rw [ev_const] | skip) <;> simp only [upd_apply, Nat.reduceEqDiff, if_true, if_false, reduceIte, lit_iv, lit_w8, K0_0, K0_1, K0_2, K0_48, K0_49, K0_50, K0_51, K0_52, K0_53, K0_54]
      intro v6 h6 own6 wt6
      rw [List.append_assoc, show List.replicate j 0#8 ++ [0#8] = List.replicate (j + 1) 0#8 from (List.replicate_succ' ..).symm] at own6
      have n6 := wt6.nx
      simp only [RH] at n6
      have F6 := F5.trans ((Fr.new (.refl h.nx h5) F5.1 .rw 1 [w8 0#8]).trans (wt6.owFr (by simp only [RH]; have := F5.1; omega) own5.new))
      repeat (first
        | refine R_seq ?_ | refine R_region ?_ | refine R_nil ?_ | refine Q_seq ?_ | refine Q_norm ?_ | refine Q_seqr ?_ | refine Q_seqx ?_ | refine Q_bl ?_ | refine Q_blr ?_ | refine Q_blx ?_ | refine Q_blo rfl ?_ | refine R_block ?_ | refine R_skip ?_ | refine R_exit ?_ | refine R_ret ?_ | refine I_true ?_ | refine I_false ?_ | refine N_exit ?_ | refine N_ret ?_
        | ((first | apply R_op | apply R_op0)
           · (first | (simp (maxDischargeDepth := 9) only [RA, Nat.reduceEqDiff, Nat.reduceLT, Nat.reduceLeDiff, Nat.reduceAdd, Nat.reduceSub, Nat.reduceMul, Nat.reduceDiv, Nat.reduceMod, Nat.reducePow, Nat.reduceBEq, Nat.reduceGT, reduceIte, j9, T1, T3, T5, T30, T38, cv8_i Try.underlying5 Try.underlying3, K0_0, K0_1, K0_2, K0_48, K0_49, K0_50, K0_51, K0_52, K0_53, K0_54] <;> rfl) | ((repeat (first | (simp (maxDischargeDepth := 9) only [RA, Nat.reduceEqDiff, Nat.reduceLT, Nat.reduceLeDiff, Nat.reduceAdd, Nat.reduceSub, Nat.reduceMul, Nat.reduceDiv, Nat.reduceMod, Nat.reducePow, Nat.reduceBEq, Nat.reduceGT, reduceIte, j9, T1, T3, T5, T30, T38, cv8_i Try.underlying5 Try.underlying3, K0_0, K0_1, K0_2, K0_48, K0_49, K0_50, K0_51, K0_52, K0_53, K0_54]; done) | simp (maxDischargeDepth := 9) only [RA, Nat.reduceEqDiff, Nat.reduceLT, Nat.reduceLeDiff, Nat.reduceAdd, Nat.reduceSub, Nat.reduceMul, Nat.reduceDiv, Nat.reduceMod, Nat.reducePow, Nat.reduceBEq, Nat.reduceGT, reduceIte, j9, T1, T3, T5, T30, T38, cv8_i Try.underlying5 Try.underlying3, K0_0, K0_1, K0_2, K0_48, K0_49, K0_50, K0_51, K0_52, K0_53, K0_54] | simp (disch := first | assumption | omega) only [RV, j9, T1, T3, T5, T30, T38, cv8_i Try.underlying5 Try.underlying3, K0_0, K0_1, K0_2, K0_48, K0_49, K0_50, K0_51, K0_52, K0_53, K0_54])) <;> rfl)))
        | (apply R_cond
           · (simp only [RE, Nat.reduceEqDiff, Nat.reduceLT, Nat.reduceLeDiff, Nat.reduceBEq, reduceIte, j9, T1, T3, T5, T30, T38, cv8_i Try.underlying5 Try.underlying3, K0_0, K0_1, K0_2, K0_48, K0_49, K0_50, K0_51, K0_52, K0_53, K0_54] <;> rfl))
        | (apply R_grd
           · (simp only [yieldedA, RY, Nat.reduceEqDiff, reduceIte, j9, T1, T3, T5, T30, T38, cv8_i Try.underlying5 Try.underlying3, K0_0, K0_1, K0_2, K0_48, K0_49, K0_50, K0_51, K0_52, K0_53, K0_54] <;> rfl)))
      refine ⟨rfl, by first | rfl | simp only [List.map_cons, List.map_nil, RH, Nat.reduceAdd, Nat.reduceEqDiff, reduceIte, T1, T3, T5, T30, T38, cv8_i Try.underlying5 Try.underlying3, K0_0, K0_1, K0_2, K0_48, K0_49, K0_50, K0_51, K0_52, K0_53, K0_54], by first | rfl | simp only [List.map_cons, List.map_nil, RH, Nat.reduceAdd, Nat.reduceEqDiff, reduceIte, T1, T3, T5, T30, T38, cv8_i Try.underlying5 Try.underlying3, K0_0, K0_1, K0_2, K0_48, K0_49, K0_50, K0_51, K0_52, K0_53, K0_54], by first | (simp only [RH, T1, T3, T5, T30, T38, cv8_i Try.underlying5 Try.underlying3, K0_0, K0_1, K0_2, K0_48, K0_49, K0_50, K0_51, K0_52, K0_53, K0_54]; done) | ((try simp only [RH, T1, T3, T5, T30, T38, cv8_i Try.underlying5 Try.underlying3, K0_0, K0_1, K0_2, K0_48, K0_49, K0_50, K0_51, K0_52, K0_53, K0_54]); omega), ?_⟩
      exact ⟨by (try simp only [List.map_cons, List.map_nil, RH, Nat.reduceAdd, Nat.reduceEqDiff, reduceIte, ev_tmp, ev_const, lit_iv, lit_w8, lit_w32, lit_w64, envOf0, envOf1, envOf2, envOf3, envOf4, envOf5, T1, T3, T5, T30, T38, cv8_i Try.underlying5 Try.underlying3, K0_0, K0_1, K0_2, K0_48, K0_49, K0_50, K0_51, K0_52, K0_53, K0_54]), by (try simp only [List.map_cons, List.map_nil, RH, Nat.reduceAdd, Nat.reduceEqDiff, reduceIte, ev_tmp, ev_const, lit_iv, lit_w8, lit_w32, lit_w64, envOf0, envOf1, envOf2, envOf3, envOf4, envOf5, T1, T3, T5, T30, T38, cv8_i Try.underlying5 Try.underlying3, K0_0, K0_1, K0_2, K0_48, K0_49, K0_50, K0_51, K0_52, K0_53, K0_54]); exact own6, F6⟩
    · intro e5 h5 hK hO hN ⟨j9, own5, F5⟩
      simp only [List.map_cons, List.map_nil, List.cons.injEq, and_true, RH, Nat.reduceAdd, Nat.reduceEqDiff, reduceIte, envOf0, envOf1, envOf2, envOf3, envOf4, envOf5] at hK
      obtain ⟨K0_0, K0_1, K0_2, K0_48, K0_49, K0_50, K0_51, K0_52, K0_53, K0_54⟩ := hK
      try simp only [RH] at hN
      have l5 := S38len own5.sl
      have k25 : By h5 v2 k := k2.fr0 F5
      have b35 : By h5 v3 b := b3.fr0 F5
      have hz : hmacS (k ++ List.replicate (min x.toNat (64 - k.length)) 0#8) b = hmacS k b := hmacS_zeros (by omega) b
      have hlz : (k ++ List.replicate (min x.toNat (64 - k.length)) 0#8).length ≤ 64 := by simp; omega
      by_cases hxx : min x.toNat (64 - k.length) < x.toNat
      · have h6 : ¬ (k ++ List.replicate (min x.toNat (64 - k.length)) 0#8).length < 64 := by simp; omega
        generalize (k ++ List.replicate (min x.toNat (64 - k.length)) 0#8) = ks at *
        repeat (first
          | refine R_seq ?_ | refine R_region ?_ | refine R_nil ?_ | refine Q_seq ?_ | refine Q_norm ?_ | refine Q_seqr ?_ | refine Q_seqx ?_ | refine Q_bl ?_ | refine Q_blr ?_ | refine Q_blx ?_ | refine Q_blo rfl ?_ | refine R_block ?_ | refine R_skip ?_ | refine R_exit ?_ | refine R_ret ?_ | refine I_true ?_ | refine I_false ?_ | refine N_exit ?_ | refine N_ret ?_
          | ((first | apply R_op | apply R_op0)
             · (first | (simp (maxDischargeDepth := 9) only [RA, Nat.reduceEqDiff, Nat.reduceLT, Nat.reduceLeDiff, Nat.reduceAdd, Nat.reduceSub, Nat.reduceMul, Nat.reduceDiv, Nat.reduceMod, Nat.reducePow, Nat.reduceBEq, Nat.reduceGT, reduceIte, j9, hxx, h6, hx2, l5, live70 0, T1, T3, T5, T30, T38, cv8_i Try.underlying5 Try.underlying3, K0_0, K0_1, K0_2, K0_48, K0_49, K0_50, K0_51, K0_52, K0_53, K0_54] <;> rfl) | ((repeat (first | (simp (maxDischargeDepth := 9) only [RA, Nat.reduceEqDiff, Nat.reduceLT, Nat.reduceLeDiff, Nat.reduceAdd, Nat.reduceSub, Nat.reduceMul, Nat.reduceDiv, Nat.reduceMod, Nat.reducePow, Nat.reduceBEq, Nat.reduceGT, reduceIte, j9, hxx, h6, hx2, l5, live70 0, T1, T3, T5, T30, T38, cv8_i Try.underlying5 Try.underlying3, K0_0, K0_1, K0_2, K0_48, K0_49, K0_50, K0_51, K0_52, K0_53, K0_54]; done) | simp (maxDischargeDepth := 9) only [RA, Nat.reduceEqDiff, Nat.reduceLT, Nat.reduceLeDiff, Nat.reduceAdd, Nat.reduceSub, Nat.reduceMul, Nat.reduceDiv, Nat.reduceMod, Nat.reducePow, Nat.reduceBEq, Nat.reduceGT, reduceIte, j9, hxx, h6, hx2, l5, live70 0, T1, T3, T5, T30, T38, cv8_i Try.underlying5 Try.underlying3, K0_0, K0_1, K0_2, K0_48, K0_49, K0_50, K0_51, K0_52, K0_53, K0_54] | simp (disch := first | assumption | omega) only [RV, j9, hxx, h6, hx2, l5, live70 0, T1, T3, T5, T30, T38, cv8_i Try.underlying5 Try.underlying3, K0_0, K0_1, K0_2, K0_48, K0_49, K0_50, K0_51, K0_52, K0_53, K0_54])) <;> rfl)))
          | (apply R_cond
             · (simp only [RE, Nat.reduceEqDiff, Nat.reduceLT, Nat.reduceLeDiff, Nat.reduceBEq, reduceIte, j9, hxx, h6, hx2, l5, live70 0, T1, T3, T5, T30, T38, cv8_i Try.underlying5 Try.underlying3, K0_0, K0_1, K0_2, K0_48, K0_49, K0_50, K0_51, K0_52, K0_53, K0_54] <;> rfl))
          | (apply R_grd
             · (simp only [yieldedA, RY, Nat.reduceEqDiff, reduceIte, j9, hxx, h6, hx2, l5, live70 0, T1, T3, T5, T30, T38, cv8_i Try.underlying5 Try.underlying3, K0_0, K0_1, K0_2, K0_48, K0_49, K0_50, K0_51, K0_52, K0_53, K0_54] <;> rfl)))
        refine R_fn ?_ (hmac68 2 h5 v2 v3 k b k25 b35 (by omega) (by omega)) ?_
        · rfl
        intro v7 h7 ⟨hv7, F7⟩
        subst hv7
        repeat (first
          | refine R_seq ?_ | refine R_region ?_ | refine R_nil ?_ | refine Q_seq ?_ | refine Q_norm ?_ | refine Q_seqr ?_ | refine Q_seqx ?_ | refine Q_bl ?_ | refine Q_blr ?_ | refine Q_blx ?_ | refine Q_blo rfl ?_ | refine R_block ?_ | refine R_skip ?_ | refine R_exit ?_ | refine R_ret ?_ | refine I_true ?_ | refine I_false ?_ | refine N_exit ?_ | refine N_ret ?_
          | ((first | apply R_op | apply R_op0)
             · (first | (simp (maxDischargeDepth := 9) only [RA, Nat.reduceEqDiff, Nat.reduceLT, Nat.reduceLeDiff, Nat.reduceAdd, Nat.reduceSub, Nat.reduceMul, Nat.reduceDiv, Nat.reduceMod, Nat.reducePow, Nat.reduceBEq, Nat.reduceGT, reduceIte, T1, T3, T5, T30, T38, cv8_i Try.underlying5 Try.underlying3, K0_0, K0_1, K0_2, K0_48, K0_49, K0_50, K0_51, K0_52, K0_53, K0_54] <;> rfl) | ((repeat (first | (simp (maxDischargeDepth := 9) only [RA, Nat.reduceEqDiff, Nat.reduceLT, Nat.reduceLeDiff, Nat.reduceAdd, Nat.reduceSub, Nat.reduceMul, Nat.reduceDiv, Nat.reduceMod, Nat.reducePow, Nat.reduceBEq, Nat.reduceGT, reduceIte, T1, T3, T5, T30, T38, cv8_i Try.underlying5 Try.underlying3, K0_0, K0_1, K0_2, K0_48, K0_49, K0_50, K0_51, K0_52, K0_53, K0_54]; done) | simp (maxDischargeDepth := 9) only [RA, Nat.reduceEqDiff, Nat.reduceLT, Nat.reduceLeDiff, Nat.reduceAdd, Nat.reduceSub, Nat.reduceMul, Nat.reduceDiv, Nat.reduceMod, Nat.reducePow, Nat.reduceBEq, Nat.reduceGT, reduceIte, T1, T3, T5, T30, T38, cv8_i Try.underlying5 Try.underlying3, K0_0, K0_1, K0_2, K0_48, K0_49, K0_50, K0_51, K0_52, K0_53, K0_54] | simp (disch := first | assumption | omega) only [RV, T1, T3, T5, T30, T38, cv8_i Try.underlying5 Try.underlying3, K0_0, K0_1, K0_2, K0_48, K0_49, K0_50, K0_51, K0_52, K0_53, K0_54])) <;> rfl)))
          | (apply R_cond
             · (simp only [RE, Nat.reduceEqDiff, Nat.reduceLT, Nat.reduceLeDiff, Nat.reduceBEq, reduceIte, T1, T3, T5, T30, T38, cv8_i Try.underlying5 Try.underlying3, K0_0, K0_1, K0_2, K0_48, K0_49, K0_50, K0_51, K0_52, K0_53, K0_54] <;> rfl))
          | (apply R_grd
             · (simp only [yieldedA, RY, Nat.reduceEqDiff, reduceIte, T1, T3, T5, T30, T38, cv8_i Try.underlying5 Try.underlying3, K0_0, K0_1, K0_2, K0_48, K0_49, K0_50, K0_51, K0_52, K0_53, K0_54] <;> rfl)))
        refine R_fn ?_ (hmac68 2 h7 (e5 8) v3 ks b (own5.sl.fr0 F7) (b35.fr0 F7) (by omega) (by omega)) ?_
        · rfl
        intro v8 h8 ⟨hv8, F8⟩
        rw [hz] at hv8
        subst hv8
        repeat (first
          | refine R_seq ?_ | refine R_region ?_ | refine R_nil ?_ | refine Q_seq ?_ | refine Q_norm ?_ | refine Q_seqr ?_ | refine Q_seqx ?_ | refine Q_bl ?_ | refine Q_blr ?_ | refine Q_blx ?_ | refine Q_blo rfl ?_ | refine R_block ?_ | refine R_skip ?_ | refine R_exit ?_ | refine R_ret ?_ | refine I_true ?_ | refine I_false ?_ | refine N_exit ?_ | refine N_ret ?_
          | ((first | apply R_op | apply R_op0)
             · (first | (simp (maxDischargeDepth := 9) only [RA, Nat.reduceEqDiff, Nat.reduceLT, Nat.reduceLeDiff, Nat.reduceAdd, Nat.reduceSub, Nat.reduceMul, Nat.reduceDiv, Nat.reduceMod, Nat.reducePow, Nat.reduceBEq, Nat.reduceGT, reduceIte, beq30 (hmacS_length k b) (hmacS_length k b), T1, T3, T5, T30, T38, cv8_i Try.underlying5 Try.underlying3, K0_0, K0_1, K0_2, K0_48, K0_49, K0_50, K0_51, K0_52, K0_53, K0_54] <;> rfl) | ((repeat (first | (simp (maxDischargeDepth := 9) only [RA, Nat.reduceEqDiff, Nat.reduceLT, Nat.reduceLeDiff, Nat.reduceAdd, Nat.reduceSub, Nat.reduceMul, Nat.reduceDiv, Nat.reduceMod, Nat.reducePow, Nat.reduceBEq, Nat.reduceGT, reduceIte, beq30 (hmacS_length k b) (hmacS_length k b), T1, T3, T5, T30, T38, cv8_i Try.underlying5 Try.underlying3, K0_0, K0_1, K0_2, K0_48, K0_49, K0_50, K0_51, K0_52, K0_53, K0_54]; done) | simp (maxDischargeDepth := 9) only [RA, Nat.reduceEqDiff, Nat.reduceLT, Nat.reduceLeDiff, Nat.reduceAdd, Nat.reduceSub, Nat.reduceMul, Nat.reduceDiv, Nat.reduceMod, Nat.reducePow, Nat.reduceBEq, Nat.reduceGT, reduceIte, beq30 (hmacS_length k b) (hmacS_length k b), T1, T3, T5, T30, T38, cv8_i Try.underlying5 Try.underlying3, K0_0, K0_1, K0_2, K0_48, K0_49, K0_50, K0_51, K0_52, K0_53, K0_54] | simp (disch := first | assumption | omega) only [RV, beq30 (hmacS_length k b) (hmacS_length k b), T1, T3, T5, T30, T38, cv8_i Try.underlying5 Try.underlying3, K0_0, K0_1, K0_2, K0_48, K0_49, K0_50, K0_51, K0_52, K0_53, K0_54])) <;> rfl)))
          | (apply R_cond
             · (simp only [RE, Nat.reduceEqDiff, Nat.reduceLT, Nat.reduceLeDiff, Nat.reduceBEq, reduceIte, beq30 (hmacS_length k b) (hmacS_length k b), T1, T3, T5, T30, T38, cv8_i Try.underlying5 Try.underlying3, K0_0, K0_1, K0_2, K0_48, K0_49, K0_50, K0_51, K0_52, K0_53, K0_54] <;> rfl))
          | (apply R_grd
             · (simp only [yieldedA, RY, Nat.reduceEqDiff, reduceIte, beq30 (hmacS_length k b) (hmacS_length k b), T1, T3, T5, T30, T38, cv8_i Try.underlying5 Try.underlying3, K0_0, K0_1, K0_2, K0_48, K0_49, K0_50, K0_51, K0_52, K0_53, K0_54] <;> rfl)))
        (first | refine ⟨.inr rfl, _, rfl, ?_⟩ | refine ⟨.inl rfl, _, rfl, ?_⟩) <;> simp only [packR, upd_apply, Nat.reduceEqDiff, if_true, if_false, reduceIte]
      · generalize (k ++ List.replicate (min x.toNat (64 - k.length)) 0#8) = ks at *
        repeat (first
          | refine R_seq ?_ | refine R_region ?_ | refine R_nil ?_ | refine Q_seq ?_ | refine Q_norm ?_ | refine Q_seqr ?_ | refine Q_seqx ?_ | refine Q_bl ?_ | refine Q_blr ?_ | refine Q_blx ?_ | refine Q_blo rfl ?_ | refine R_block ?_ | refine R_skip ?_ | refine R_exit ?_ | refine R_ret ?_ | refine I_true ?_ | refine I_false ?_ | refine N_exit ?_ | refine N_ret ?_
          | ((first | apply R_op | apply R_op0)
             · (first | (simp (maxDischargeDepth := 9) only [RA, Nat.reduceEqDiff, Nat.reduceLT, Nat.reduceLeDiff, Nat.reduceAdd, Nat.reduceSub, Nat.reduceMul, Nat.reduceDiv, Nat.reduceMod, Nat.reducePow, Nat.reduceBEq, Nat.reduceGT, reduceIte, j9, hxx, hx2, l5, live70 0, T1, T3, T5, T30, T38, cv8_i Try.underlying5 Try.underlying3, K0_0, K0_1, K0_2, K0_48, K0_49, K0_50, K0_51, K0_52, K0_53, K0_54] <;> rfl) | ((repeat (first | (simp (maxDischargeDepth := 9) only [RA, Nat.reduceEqDiff, Nat.reduceLT, Nat.reduceLeDiff, Nat.reduceAdd, Nat.reduceSub, Nat.reduceMul, Nat.reduceDiv, Nat.reduceMod, Nat.reducePow, Nat.reduceBEq, Nat.reduceGT, reduceIte, j9, hxx, hx2, l5, live70 0, T1, T3, T5, T30, T38, cv8_i Try.underlying5 Try.underlying3, K0_0, K0_1, K0_2, K0_48, K0_49, K0_50, K0_51, K0_52, K0_53, K0_54]; done) | simp (maxDischargeDepth := 9) only [RA, Nat.reduceEqDiff, Nat.reduceLT, Nat.reduceLeDiff, Nat.reduceAdd, Nat.reduceSub, Nat.reduceMul, Nat.reduceDiv, Nat.reduceMod, Nat.reducePow, Nat.reduceBEq, Nat.reduceGT, reduceIte, j9, hxx, hx2, l5, live70 0, T1, T3, T5, T30, T38, cv8_i Try.underlying5 Try.underlying3, K0_0, K0_1, K0_2, K0_48, K0_49, K0_50, K0_51, K0_52, K0_53, K0_54] | simp (disch := first | assumption | omega) only [RV, j9, hxx, hx2, l5, live70 0, T1, T3, T5, T30, T38, cv8_i Try.underlying5 Try.underlying3, K0_0, K0_1, K0_2, K0_48, K0_49, K0_50, K0_51, K0_52, K0_53, K0_54])) <;> rfl)))
          | (apply R_cond
             · (simp only [RE, Nat.reduceEqDiff, Nat.reduceLT, Nat.reduceLeDiff, Nat.reduceBEq, reduceIte, j9, hxx, hx2, l5, live70 0, T1, T3, T5, T30, T38, cv8_i Try.underlying5 Try.underlying3, K0_0, K0_1, K0_2, K0_48, K0_49, K0_50, K0_51, K0_52, K0_53, K0_54] <;> rfl))
          | (apply R_grd
             · (simp only [yieldedA, RY, Nat.reduceEqDiff, reduceIte, j9, hxx, hx2, l5, live70 0, T1, T3, T5, T30, T38, cv8_i Try.underlying5 Try.underlying3, K0_0, K0_1, K0_2, K0_48, K0_49, K0_50, K0_51, K0_52, K0_53, K0_54] <;> rfl)))
        refine R_fn ?_ (hmac68 2 h5 v2 v3 k b k25 b35 (by omega) (by omega)) ?_
        · rfl
        intro v7 h7 ⟨hv7, F7⟩
        subst hv7
        repeat (first
          | refine R_seq ?_ | refine R_region ?_ | refine R_nil ?_ | refine Q_seq ?_ | refine Q_norm ?_ | refine Q_seqr ?_ | refine Q_seqx ?_ | refine Q_bl ?_ | refine Q_blr ?_ | refine Q_blx ?_ | refine Q_blo rfl ?_ | refine R_block ?_ | refine R_skip ?_ | refine R_exit ?_ | refine R_ret ?_ | refine I_true ?_ | refine I_false ?_ | refine N_exit ?_ | refine N_ret ?_
          | ((first | apply R_op | apply R_op0)
             · (first | (simp (maxDischargeDepth := 9) only [RA, Nat.reduceEqDiff, Nat.reduceLT, Nat.reduceLeDiff, Nat.reduceAdd, Nat.reduceSub, Nat.reduceMul, Nat.reduceDiv, Nat.reduceMod, Nat.reducePow, Nat.reduceBEq, Nat.reduceGT, reduceIte, T1, T3, T5, T30, T38, cv8_i Try.underlying5 Try.underlying3, K0_0, K0_1, K0_2, K0_48, K0_49, K0_50, K0_51, K0_52, K0_53, K0_54] <;> rfl) | ((repeat (first | (simp (maxDischargeDepth := 9) only [RA, Nat.reduceEqDiff, Nat.reduceLT, Nat.reduceLeDiff, Nat.reduceAdd, Nat.reduceSub, Nat.reduceMul, Nat.reduceDiv, Nat.reduceMod, Nat.reducePow, Nat.reduceBEq, Nat.reduceGT, reduceIte, T1, T3, T5, T30, T38, cv8_i Try.underlying5 Try.underlying3, K0_0, K0_1, K0_2, K0_48, K0_49, K0_50, K0_51, K0_52, K0_53, K0_54]; done) | simp (maxDischargeDepth := 9) only [RA, Nat.reduceEqDiff, Nat.reduceLT, Nat.reduceLeDiff, Nat.reduceAdd, Nat.reduceSub, Nat.reduceMul, Nat.reduceDiv, Nat.reduceMod, Nat.reducePow, Nat.reduceBEq, Nat.reduceGT, reduceIte, T1, T3, T5, T30, T38, cv8_i Try.underlying5 Try.underlying3, K0_0, K0_1, K0_2, K0_48, K0_49, K0_50, K0_51, K0_52, K0_53, K0_54] | simp (disch := first | assumption | omega) only [RV, T1, T3, T5, T30, T38, cv8_i Try.underlying5 Try.underlying3, K0_0, K0_1, K0_2, K0_48, K0_49, K0_50, K0_51, K0_52, K0_53, K0_54])) <;> rfl)))
          | (apply R_cond
             · (simp only [RE, Nat.reduceEqDiff, Nat.reduceLT, Nat.reduceLeDiff, Nat.reduceBEq, reduceIte, T1, T3, T5, T30, T38, cv8_i Try.underlying5 Try.underlying3, K0_0, K0_1, K0_2, K0_48, K0_49, K0_50, K0_51, K0_52, K0_53, K0_54] <;> rfl))
          | (apply R_grd
             · (simp only [yieldedA, RY, Nat.reduceEqDiff, reduceIte, T1, T3, T5, T30, T38, cv8_i Try.underlying5 Try.underlying3, K0_0, K0_1, K0_2, K0_48, K0_49, K0_50, K0_51, K0_52, K0_53, K0_54] <;> rfl)))
        refine R_fn ?_ (hmac68 2 h7 (e5 8) v3 ks b (own5.sl.fr0 F7) (b35.fr0 F7) (by omega) (by omega)) ?_
        · rfl
        intro v8 h8 ⟨hv8, F8⟩
        rw [hz] at hv8
        subst hv8
        repeat (first
          | refine R_seq ?_ | refine R_region ?_ | refine R_nil ?_ | refine Q_seq ?_ | refine Q_norm ?_ | refine Q_seqr ?_ | refine Q_seqx ?_ | refine Q_bl ?_ | refine Q_blr ?_ | refine Q_blx ?_ | refine Q_blo rfl ?_ | refine R_block ?_ | refine R_skip ?_ | refine R_exit ?_ | refine R_ret ?_ | refine I_true ?_ | refine I_false ?_ | refine N_exit ?_ | refine N_ret ?_
          | ((first | apply R_op | apply R_op0)
             · (first | (simp (maxDischargeDepth := 9) only [RA, Nat.reduceEqDiff, Nat.reduceLT, Nat.reduceLeDiff, Nat.reduceAdd, Nat.reduceSub, Nat.reduceMul, Nat.reduceDiv, Nat.reduceMod, Nat.reducePow, Nat.reduceBEq, Nat.reduceGT, reduceIte, beq30 (hmacS_length k b) (hmacS_length k b), T1, T3, T5, T30, T38, cv8_i Try.underlying5 Try.underlying3, K0_0, K0_1, K0_2, K0_48, K0_49, K0_50, K0_51, K0_52, K0_53, K0_54] <;> rfl) | ((repeat (first | (simp (maxDischargeDepth := 9) only [RA, Nat.reduceEqDiff, Nat.reduceLT, Nat.reduceLeDiff, Nat.reduceAdd, Nat.reduceSub, Nat.reduceMul, Nat.reduceDiv, Nat.reduceMod, Nat.reducePow, Nat.reduceBEq, Nat.reduceGT, reduceIte, beq30 (hmacS_length k b) (hmacS_length k b), T1, T3, T5, T30, T38, cv8_i Try.underlying5 Try.underlying3, K0_0, K0_1, K0_2, K0_48, K0_49, K0_50, K0_51, K0_52, K0_53, K0_54]; done) | simp (maxDischargeDepth := 9) only [RA, Nat.reduceEqDiff, Nat.reduceLT, Nat.reduceLeDiff, Nat.reduceAdd, Nat.reduceSub, Nat.reduceMul, Nat.reduceDiv, Nat.reduceMod, Nat.reducePow, Nat.reduceBEq, Nat.reduceGT, reduceIte, beq30 (hmacS_length k b) (hmacS_length k b), T1, T3, T5, T30, T38, cv8_i Try.underlying5 Try.underlying3, K0_0, K0_1, K0_2, K0_48, K0_49, K0_50, K0_51, K0_52, K0_53, K0_54] | simp (disch := first | assumption | omega) only [RV, beq30 (hmacS_length k b) (hmacS_length k b), T1, T3, T5, T30, T38, cv8_i Try.underlying5 Try.underlying3, K0_0, K0_1, K0_2, K0_48, K0_49, K0_50, K0_51, K0_52, K0_53, K0_54])) <;> rfl)))
          | (apply R_cond
             · (simp only [RE, Nat.reduceEqDiff, Nat.reduceLT, Nat.reduceLeDiff, Nat.reduceBEq, reduceIte, beq30 (hmacS_length k b) (hmacS_length k b), T1, T3, T5, T30, T38, cv8_i Try.underlying5 Try.underlying3, K0_0, K0_1, K0_2, K0_48, K0_49, K0_50, K0_51, K0_52, K0_53, K0_54] <;> rfl))
          | (apply R_grd
             · (simp only [yieldedA, RY, Nat.reduceEqDiff, reduceIte, beq30 (hmacS_length k b) (hmacS_length k b), T1, T3, T5, T30, T38, cv8_i Try.underlying5 Try.underlying3, K0_0, K0_1, K0_2, K0_48, K0_49, K0_50, K0_51, K0_52, K0_53, K0_54] <;> rfl)))
        (first | refine ⟨.inr rfl, _, rfl, ?_⟩ | refine ⟨.inl rfl, _, rfl, ?_⟩) <;> simp only [packR, upd_apply, Nat.reduceEqDiff, if_true, if_false, reduceIte]
theorem tyv5 {h : Heap} {v : Value} (s : TyV Try.prog 8 h 5 v) : ∃ x, v = w8 x := by
  obtain ⟨x, e⟩ := ty_u8 (d := 7) Try.underlying5 (tyv_one Try.underlying5 rfl s)
  cases e
  exact ⟨x, rfl⟩
theorem wl27 (h : Heap) (avs : List Value) (ty : TyVs Try.prog 8 h [38, 38, 5] avs) : ∃ v h', evF (cfg0 Try.prog) 12 27 avs h = some (.ok v, h') ∧ v = .bool true := by
  match avs, ty with
  | [v, w, z], ⟨s0, s1, s2, _⟩ =>
    obtain ⟨xs, hb, _⟩ := tyv38 s0
    obtain ⟨ys, hc, _⟩ := tyv38 s1
    obtain ⟨x, rfl⟩ := tyv5 s2
    exact law27 h v w xs ys hb hc x
end Go.Proofs.Ytfehhihllenjiaa
