/- A stream's pieces. -/
import Derived.Test.YtfehhihllenjiaaGd
set_option linter.all false
namespace Go.Proofs.Ytfehhihllenjiaa
open Go.Proofs
attribute [local irreducible] evOps iter evD evF evC evLoad evStore evAlloc evIndexAddr evIndex evLenB evBox evBin evUn evConvert evExtract evSlice evAppend evCopy evNil evBuild evMakeSlice evBuildSlice evBuiltin Program.underlying
attribute [local irreducible] block xorS
theorem bu30 : evBuild Try.prog 30 [] = some (.agg ⟨b8 (List.replicate 32 0#8)⟩) := by kernel_rfl
theorem bu32 : evBuild Try.prog 32 [] = some (.agg ⟨b8 (List.replicate 12 0#8)⟩) := by kernel_rfl
theorem bl0 : (block (List.replicate 32 0#8) (List.replicate 12 0#8) 0#32).getD 0 0#8 = 118#8 := by
  unfold block; kernel_rfl
theorem bl1 : (block (List.replicate 32 0#8) (List.replicate 12 0#8) 0#32).getD 1 0#8 = 184#8 := by
  unfold block; kernel_rfl
set_option maxRecDepth 20000 in
set_option maxHeartbeats 8000000 in
theorem law17 (k n' : List (BitVec 8)) (hk : k.length = 32) (hn : n'.length = 12) (h : Heap) (v : Value) (b : List (BitVec 8)) (hb : By h v b) : ∃ v1 h1, evF (cfg0 Try.prog) 9 17 [.agg ⟨b8 k⟩, .agg ⟨b8 n'⟩, v] h = some (.ok v1, h1) ∧ v1 = .bool true := by
  rw [evF_eq Try.func17 rfl]
  apply evEnd_of_W
  simp only [Try.f17]
  repeat (first
    | refine R_seq ?_ | refine R_region ?_ | refine R_nil ?_ | refine Q_seq ?_ | refine Q_norm ?_ | refine Q_seqr ?_ | refine Q_seqx ?_ | refine Q_bl ?_ | refine Q_blr ?_ | refine Q_blx ?_ | refine Q_blo rfl ?_ | refine R_block ?_ | refine R_skip ?_ | refine R_exit ?_ | refine R_ret ?_ | refine I_true ?_ | refine I_false ?_ | refine N_exit ?_ | refine N_ret ?_
    | (refine R_draw (by kernel_rfl) ?_)
    | ((first | apply R_op | apply R_op0)
       · (first | (simp (maxDischargeDepth := 9) only [RA, Nat.reduceEqDiff, Nat.reduceLT, Nat.reduceLeDiff, Nat.reduceAdd, Nat.reduceSub, Nat.reduceMul, Nat.reduceDiv, Nat.reduceMod, Nat.reducePow, Nat.reduceBEq, Nat.reduceGT, reduceIte, T3, T5, T9, T22, T30, T32, T33, T38] <;> rfl) | ((repeat (first | (simp (maxDischargeDepth := 9) only [RA, Nat.reduceEqDiff, Nat.reduceLT, Nat.reduceLeDiff, Nat.reduceAdd, Nat.reduceSub, Nat.reduceMul, Nat.reduceDiv, Nat.reduceMod, Nat.reducePow, Nat.reduceBEq, Nat.reduceGT, reduceIte, T3, T5, T9, T22, T30, T32, T33, T38]; done) | simp (maxDischargeDepth := 9) only [RA, Nat.reduceEqDiff, Nat.reduceLT, Nat.reduceLeDiff, Nat.reduceAdd, Nat.reduceSub, Nat.reduceMul, Nat.reduceDiv, Nat.reduceMod, Nat.reducePow, Nat.reduceBEq, Nat.reduceGT, reduceIte, T3, T5, T9, T22, T30, T32, T33, T38] | simp (disch := first | assumption | omega) only [RV, T3, T5, T9, T22, T30, T32, T33, T38])) <;> rfl)))
    | (apply R_cond
       · (simp only [RE, Nat.reduceEqDiff, Nat.reduceLT, Nat.reduceLeDiff, Nat.reduceBEq, reduceIte, T3, T5, T9, T22, T30, T32, T33, T38] <;> rfl))
    | (apply R_grd
       · (simp only [yieldedA, RY, Nat.reduceEqDiff, reduceIte, T3, T5, T9, T22, T30, T32, T33, T38] <;> rfl)))
  have hb1 : By (newRowH (newRowH h .rw 1 (b8 k)) .rw 1 (b8 n')) v b := hb.fr0 (by (repeat (first | assumption | exact Fr.refl _ _ | refine Fr.new ?_ ?_ _ _ _ | refine Fr.put ?_ ?_ _ | omega | (simp only [RH]; omega))))
  obtain ⟨v2, e2, b2, r2⟩ := few60 7 _ v b 400 hb1
  repeat (first
    | refine R_seq ?_ | refine R_region ?_ | refine R_nil ?_ | refine Q_seq ?_ | refine Q_norm ?_ | refine Q_seqr ?_ | refine Q_seqx ?_ | refine Q_bl ?_ | refine Q_blr ?_ | refine Q_blx ?_ | refine Q_blo rfl ?_ | refine R_block ?_ | refine R_skip ?_ | refine R_exit ?_ | refine R_ret ?_ | refine I_true ?_ | refine I_false ?_ | refine N_exit ?_ | refine N_ret ?_
    | (refine R_draw (by kernel_rfl) ?_)
    | ((first | apply R_op | apply R_op0)
       · (first | (simp (maxDischargeDepth := 9) only [RA, Nat.reduceEqDiff, Nat.reduceLT, Nat.reduceLeDiff, Nat.reduceAdd, Nat.reduceSub, Nat.reduceMul, Nat.reduceDiv, Nat.reduceMod, Nat.reducePow, Nat.reduceBEq, Nat.reduceGT, reduceIte, e2, cut8 hk, cut8 hn, T3, T5, T9, T22, T30, T32, T33, T38] <;> rfl) | ((repeat (first | (simp (maxDischargeDepth := 9) only [RA, Nat.reduceEqDiff, Nat.reduceLT, Nat.reduceLeDiff, Nat.reduceAdd, Nat.reduceSub, Nat.reduceMul, Nat.reduceDiv, Nat.reduceMod, Nat.reducePow, Nat.reduceBEq, Nat.reduceGT, reduceIte, e2, cut8 hk, cut8 hn, T3, T5, T9, T22, T30, T32, T33, T38]; done) | simp (maxDischargeDepth := 9) only [RA, Nat.reduceEqDiff, Nat.reduceLT, Nat.reduceLeDiff, Nat.reduceAdd, Nat.reduceSub, Nat.reduceMul, Nat.reduceDiv, Nat.reduceMod, Nat.reducePow, Nat.reduceBEq, Nat.reduceGT, reduceIte, e2, cut8 hk, cut8 hn, T3, T5, T9, T22, T30, T32, T33, T38] | simp (disch := first | assumption | omega) only [RV, e2, cut8 hk, cut8 hn, T3, T5, T9, T22, T30, T32, T33, T38])) <;> rfl)))
    | (apply R_cond
       · (simp only [RE, Nat.reduceEqDiff, Nat.reduceLT, Nat.reduceLeDiff, Nat.reduceBEq, reduceIte, e2, cut8 hk, cut8 hn, T3, T5, T9, T22, T30, T32, T33, T38] <;> rfl))
    | (apply R_grd
       · (simp only [yieldedA, RY, Nat.reduceEqDiff, reduceIte, e2, cut8 hk, cut8 hn, T3, T5, T9, T22, T30, T32, T33, T38] <;> rfl)))
  have hbl : (b.take 400).length ≤ 400 := by simp; omega
  generalize b.take 400 = b at b2 hbl
  refine R_fn ?_ (xor48 1 _ k n' hk hn 7#32 v2 b b2 (by omega)) ?_
  · rfl
  intro v3 h3 ⟨own3, F3⟩
  have N3 := F3.1
  simp only [RH] at N3
  have b23 := b2.fr0 F3
  have o3 : h3.obj h.nx = some (.row .rw 1 (b8 k)) := by
    rw [F3.2 _ (by simp only [RH]; omega)]; simp [obj_new, nx_new]
  have o4 : h3.obj (h.nx + 1) = some (.row .rw 1 (b8 n')) := by
    rw [F3.2 _ (by simp only [RH]; omega)]; simp [obj_new, nx_new]
  have b3 := own3.sl
  repeat (first
    | refine R_seq ?_ | refine R_region ?_ | refine R_nil ?_ | refine Q_seq ?_ | refine Q_norm ?_ | refine Q_seqr ?_ | refine Q_seqx ?_ | refine Q_bl ?_ | refine Q_blr ?_ | refine Q_blx ?_ | refine Q_blo rfl ?_ | refine R_block ?_ | refine R_skip ?_ | refine R_exit ?_ | refine R_ret ?_ | refine I_true ?_ | refine I_false ?_ | refine N_exit ?_ | refine N_ret ?_
    | (refine R_draw (by kernel_rfl) ?_)
    | ((first | apply R_op | apply R_op0)
       · (first | (simp (maxDischargeDepth := 9) only [RA, Nat.reduceEqDiff, Nat.reduceLT, Nat.reduceLeDiff, Nat.reduceAdd, Nat.reduceSub, Nat.reduceMul, Nat.reduceDiv, Nat.reduceMod, Nat.reducePow, Nat.reduceBEq, Nat.reduceGT, reduceIte, S38len b23, S38len b3, xorS_length, T3, T5, T9, T22, T30, T32, T33, T38] <;> rfl) | ((repeat (first | (simp (maxDischargeDepth := 9) only [RA, Nat.reduceEqDiff, Nat.reduceLT, Nat.reduceLeDiff, Nat.reduceAdd, Nat.reduceSub, Nat.reduceMul, Nat.reduceDiv, Nat.reduceMod, Nat.reducePow, Nat.reduceBEq, Nat.reduceGT, reduceIte, S38len b23, S38len b3, xorS_length, T3, T5, T9, T22, T30, T32, T33, T38]; done) | simp (maxDischargeDepth := 9) only [RA, Nat.reduceEqDiff, Nat.reduceLT, Nat.reduceLeDiff, Nat.reduceAdd, Nat.reduceSub, Nat.reduceMul, Nat.reduceDiv, Nat.reduceMod, Nat.reducePow, Nat.reduceBEq, Nat.reduceGT, reduceIte, S38len b23, S38len b3, xorS_length, T3, T5, T9, T22, T30, T32, T33, T38] | simp (disch := first | assumption | omega) only [RV, S38len b23, S38len b3, xorS_length, T3, T5, T9, T22, T30, T32, T33, T38])) <;> rfl)))
    | (apply R_cond
       · (simp only [RE, Nat.reduceEqDiff, Nat.reduceLT, Nat.reduceLeDiff, Nat.reduceBEq, reduceIte, S38len b23, S38len b3, xorS_length, T3, T5, T9, T22, T30, T32, T33, T38] <;> rfl))
    | (apply R_grd
       · (simp only [yieldedA, RY, Nat.reduceEqDiff, reduceIte, S38len b23, S38len b3, xorS_length, T3, T5, T9, T22, T30, T32, T33, T38] <;> rfl)))
  refine W_loopK [2, 3, 4, 7, 48, 49, 50, 53, 54, 55] [h.nx, h.nx + 1] (fun j e1 h1 => e1 8 = iv (37 * j) ∧ Fr h3.nx h3 h1) ((b.length + 36) / 37) (by omega) ?_ ?_ ?_
  · exact ⟨by (try simp only [List.map_cons, List.map_nil, RH, Nat.reduceAdd, Nat.reduceEqDiff, reduceIte, ev_tmp, ev_const, lit_iv, lit_w8, lit_w32, lit_w64, envOf0, envOf1, envOf2, envOf3, envOf4, envOf5, T3, T5, T9, T22, T30, T32, T33, T38]), Fr.refl _ _⟩
  · intro j hj e1 h1 hK hO hN ⟨j8, F1⟩
    simp only [List.map_cons, List.map_nil, List.cons.injEq, and_true, RH, Nat.reduceAdd, Nat.reduceEqDiff, reduceIte, envOf0, envOf1, envOf2, envOf3, envOf4, envOf5, o3, o4] at hK
    obtain ⟨K0_2, K0_3, K0_4, K0_7, K0_48, K0_49, K0_50, K0_53, K0_54, K0_55⟩ := hK
    simp only [List.map_cons, List.map_nil, List.cons.injEq, and_true, RH, Nat.reduceAdd, Nat.reduceEqDiff, reduceIte, envOf0, envOf1, envOf2, envOf3, envOf4, envOf5, o3, o4] at hO
    obtain ⟨O0_0, O0_1⟩ := hO
    try simp only [RH] at hN
    have hlt : 37 * j < b.length := by omega
    have b24 : By h1 v2 b := b23.fr0 F1
    have b34 : By h1 v3 _ := b3.fr0 F1
    have s1 := S38h (hh := 37 * j) b24 fr_refl (by omega)
    have s2 := b24.subh (mx := none) (hh := 37 * j) (by omega) (fun m hm => nomatch hm)
    repeat (first
      | refine R_seq ?_ | refine R_region ?_ | refine R_nil ?_ | refine Q_seq ?_ | refine Q_norm ?_ | refine Q_seqr ?_ | refine Q_seqx ?_ | refine Q_bl ?_ | refine Q_blr ?_ | refine Q_blx ?_ | refine Q_blo rfl ?_ | refine R_block ?_ | refine R_skip ?_ | refine R_exit ?_ | refine R_ret ?_ | refine I_true ?_ | refine I_false ?_ | refine N_exit ?_ | refine N_ret ?_
      | ((first | apply R_op | apply R_op0)
         · (first | (simp (maxDischargeDepth := 9) only [RA, Nat.reduceEqDiff, Nat.reduceLT, Nat.reduceLeDiff, Nat.reduceAdd, Nat.reduceSub, Nat.reduceMul, Nat.reduceDiv, Nat.reduceMod, Nat.reducePow, Nat.reduceBEq, Nat.reduceGT, reduceIte, j8, S38len b23, hlt, T3, T5, T9, T22, T30, T32, T33, T38, K0_2, K0_3, K0_4, K0_7, K0_48, K0_49, K0_50, K0_53, K0_54, K0_55, O0_0, O0_1] <;> rfl) | ((repeat (first | (simp (maxDischargeDepth := 9) only [RA, Nat.reduceEqDiff, Nat.reduceLT, Nat.reduceLeDiff, Nat.reduceAdd, Nat.reduceSub, Nat.reduceMul, Nat.reduceDiv, Nat.reduceMod, Nat.reducePow, Nat.reduceBEq, Nat.reduceGT, reduceIte, j8, S38len b23, hlt, T3, T5, T9, T22, T30, T32, T33, T38, K0_2, K0_3, K0_4, K0_7, K0_48, K0_49, K0_50, K0_53, K0_54, K0_55, O0_0, O0_1]; done) | simp (maxDischargeDepth := 9) only [RA, Nat.reduceEqDiff, Nat.reduceLT, Nat.reduceLeDiff, Nat.reduceAdd, Nat.reduceSub, Nat.reduceMul, Nat.reduceDiv, Nat.reduceMod, Nat.reducePow, Nat.reduceBEq, Nat.reduceGT, reduceIte, j8, S38len b23, hlt, T3, T5, T9, T22, T30, T32, T33, T38, K0_2, K0_3, K0_4, K0_7, K0_48, K0_49, K0_50, K0_53, K0_54, K0_55, O0_0, O0_1] | simp (disch := first | assumption | omega) only [RV, j8, S38len b23, hlt, T3, T5, T9, T22, T30, T32, T33, T38, K0_2, K0_3, K0_4, K0_7, K0_48, K0_49, K0_50, K0_53, K0_54, K0_55, O0_0, O0_1])) <;> rfl)))
      | (apply R_cond
         · (simp only [RE, Nat.reduceEqDiff, Nat.reduceLT, Nat.reduceLeDiff, Nat.reduceBEq, reduceIte, j8, S38len b23, hlt, T3, T5, T9, T22, T30, T32, T33, T38, K0_2, K0_3, K0_4, K0_7, K0_48, K0_49, K0_50, K0_53, K0_54, K0_55, O0_0, O0_1] <;> rfl))
      | (apply R_grd
         · (simp only [yieldedA, RY, Nat.reduceEqDiff, reduceIte, j8, S38len b23, hlt, T3, T5, T9, T22, T30, T32, T33, T38, K0_2, K0_3, K0_4, K0_7, K0_48, K0_49, K0_50, K0_53, K0_54, K0_55, O0_0, O0_1] <;> rfl)))
    refine D_draw [0, 1, 4, 5, 6, 9, 10] (fun _ => True) (by kernel_rfl) ?_
    repeat (first
      | refine D_nil ?_ | refine I_true ?_ | refine I_false ?_
      | ((first | apply D_op | apply D_op0)
         · (first | (simp (maxDischargeDepth := 9) only [RA, Nat.reduceEqDiff, Nat.reduceLT, Nat.reduceLeDiff, Nat.reduceAdd, Nat.reduceSub, Nat.reduceMul, Nat.reduceDiv, Nat.reduceMod, Nat.reducePow, Nat.reduceBEq, Nat.reduceGT, reduceIte, j8, s1, cut8 hk, cut8 hn, T3, T5, T9, T22, T30, T32, T33, T38, K0_2, K0_3, K0_4, K0_7, K0_48, K0_49, K0_50, K0_53, K0_54, K0_55, O0_0, O0_1] <;> rfl) | ((repeat (first | (simp (maxDischargeDepth := 9) only [RA, Nat.reduceEqDiff, Nat.reduceLT, Nat.reduceLeDiff, Nat.reduceAdd, Nat.reduceSub, Nat.reduceMul, Nat.reduceDiv, Nat.reduceMod, Nat.reducePow, Nat.reduceBEq, Nat.reduceGT, reduceIte, j8, s1, cut8 hk, cut8 hn, T3, T5, T9, T22, T30, T32, T33, T38, K0_2, K0_3, K0_4, K0_7, K0_48, K0_49, K0_50, K0_53, K0_54, K0_55, O0_0, O0_1]; done) | simp (maxDischargeDepth := 9) only [RA, Nat.reduceEqDiff, Nat.reduceLT, Nat.reduceLeDiff, Nat.reduceAdd, Nat.reduceSub, Nat.reduceMul, Nat.reduceDiv, Nat.reduceMod, Nat.reducePow, Nat.reduceBEq, Nat.reduceGT, reduceIte, j8, s1, cut8 hk, cut8 hn, T3, T5, T9, T22, T30, T32, T33, T38, K0_2, K0_3, K0_4, K0_7, K0_48, K0_49, K0_50, K0_53, K0_54, K0_55, O0_0, O0_1] | simp (disch := first | assumption | omega) only [RV, j8, s1, cut8 hk, cut8 hn, T3, T5, T9, T22, T30, T32, T33, T38, K0_2, K0_3, K0_4, K0_7, K0_48, K0_49, K0_50, K0_53, K0_54, K0_55, O0_0, O0_1])) <;> rfl))
         · (intro hF; first | exact chk_pure rfl | exact chk_alloc rfl | exact chk_read rfl | exact chk_iso iso45 | exact chk_call iso45 (fun _ _ _ => rfl) | exact chk_iso iso48 | exact chk_call iso48 (fun _ _ _ => rfl) | exact chk_iso iso60 | exact chk_call iso60 (fun _ _ _ => rfl) | (exfalso; revert hF; decide) | ((first | refine chk_load ?_ | refine chk_slice ?_ | refine chk_convert ?_ | refine chk_store ?_ | refine chk_call (by kernel_rfl) ?_); simp only [eq_self, ev_tmp, upd_apply, rowsOfV, List.mem_cons, List.not_mem_nil, or_false, forall_eq, forall_eq_or_imp, obj_put, obj_new, nx_new, nx_put, Nat.reduceEqDiff, if_true, if_false, reduceIte, implies_true, and_self, and_true, true_or, or_true, j8, s1, cut8 hk, cut8 hn, T3, T5, T9, T22, T30, T32, T33, T38, K0_2, K0_3, K0_4, K0_7, K0_48, K0_49, K0_50, K0_53, K0_54, K0_55, O0_0, O0_1])))
      | (apply D_grd
         · (simp only [yieldedA, RY, Nat.reduceEqDiff, reduceIte, j8, s1, cut8 hk, cut8 hn, T3, T5, T9, T22, T30, T32, T33, T38, K0_2, K0_3, K0_4, K0_7, K0_48, K0_49, K0_50, K0_53, K0_54, K0_55, O0_0, O0_1] <;> rfl)))
    refine D_fn ?_ (xor48 1 _ k n' hk hn 7#32 _ _ s2 (by rw [List.length_take]; omega)) iso48 (fun v4 h4 hp _ r _ hr => hp.2.2 r hr) ?_
    · rfl
    intro v4 h4 ⟨own4, F4⟩
    have b35 : By h4 v3 _ := b34.fr0 F4
    have s3 := S38h (hh := 37 * j) b35 fr_refl (by rw [xorS_length]; omega)
    have s4 := b35.subh (mx := none) (hh := 37 * j) (by rw [xorS_length]; omega) (fun m hm => nomatch hm)
    rw [xorS_take] at own4
    repeat (first
      | refine D_nil ?_ | refine I_true ?_ | refine I_false ?_
      | ((first | apply D_op | apply D_op0)
         · (first | (simp (maxDischargeDepth := 9) only [RA, Nat.reduceEqDiff, Nat.reduceLT, Nat.reduceLeDiff, Nat.reduceAdd, Nat.reduceSub, Nat.reduceMul, Nat.reduceDiv, Nat.reduceMod, Nat.reducePow, Nat.reduceBEq, Nat.reduceGT, reduceIte, S38str own4.sl, RF, s3, S38str s4, str_neq, j8, T3, T5, T9, T22, T30, T32, T33, T38, K0_2, K0_3, K0_4, K0_7, K0_48, K0_49, K0_50, K0_53, K0_54, K0_55, O0_0, O0_1] <;> rfl) | ((repeat (first | (simp (maxDischargeDepth := 9) only [RA, Nat.reduceEqDiff, Nat.reduceLT, Nat.reduceLeDiff, Nat.reduceAdd, Nat.reduceSub, Nat.reduceMul, Nat.reduceDiv, Nat.reduceMod, Nat.reducePow, Nat.reduceBEq, Nat.reduceGT, reduceIte, S38str own4.sl, RF, s3, S38str s4, str_neq, j8, T3, T5, T9, T22, T30, T32, T33, T38, K0_2, K0_3, K0_4, K0_7, K0_48, K0_49, K0_50, K0_53, K0_54, K0_55, O0_0, O0_1]; done) | simp (maxDischargeDepth := 9) only [RA, Nat.reduceEqDiff, Nat.reduceLT, Nat.reduceLeDiff, Nat.reduceAdd, Nat.reduceSub, Nat.reduceMul, Nat.reduceDiv, Nat.reduceMod, Nat.reducePow, Nat.reduceBEq, Nat.reduceGT, reduceIte, S38str own4.sl, RF, s3, S38str s4, str_neq, j8, T3, T5, T9, T22, T30, T32, T33, T38, K0_2, K0_3, K0_4, K0_7, K0_48, K0_49, K0_50, K0_53, K0_54, K0_55, O0_0, O0_1] | simp (disch := first | assumption | omega) only [RV, S38str own4.sl, RF, s3, S38str s4, str_neq, j8, T3, T5, T9, T22, T30, T32, T33, T38, K0_2, K0_3, K0_4, K0_7, K0_48, K0_49, K0_50, K0_53, K0_54, K0_55, O0_0, O0_1])) <;> rfl))
         · (intro hF; first | exact chk_pure rfl | exact chk_alloc rfl | exact chk_read rfl | exact chk_iso iso45 | exact chk_call iso45 (fun _ _ _ => rfl) | exact chk_iso iso48 | exact chk_call iso48 (fun _ _ _ => rfl) | exact chk_iso iso60 | exact chk_call iso60 (fun _ _ _ => rfl) | (exfalso; revert hF; decide) | ((first | refine chk_load ?_ | refine chk_slice ?_ | refine chk_convert ?_ | refine chk_store ?_ | refine chk_call (by kernel_rfl) ?_); simp only [eq_self, ev_tmp, upd_apply, rowsOfV, List.mem_cons, List.not_mem_nil, or_false, forall_eq, forall_eq_or_imp, obj_put, obj_new, nx_new, nx_put, Nat.reduceEqDiff, if_true, if_false, reduceIte, implies_true, and_self, and_true, true_or, or_true, S38str own4.sl, RF, s3, S38str s4, str_neq, j8, T3, T5, T9, T22, T30, T32, T33, T38, K0_2, K0_3, K0_4, K0_7, K0_48, K0_49, K0_50, K0_53, K0_54, K0_55, O0_0, O0_1])))
      | (apply D_grd
         · (simp only [yieldedA, RY, Nat.reduceEqDiff, reduceIte, S38str own4.sl, RF, s3, S38str s4, str_neq, j8, T3, T5, T9, T22, T30, T32, T33, T38, K0_2, K0_3, K0_4, K0_7, K0_48, K0_49, K0_50, K0_53, K0_54, K0_55, O0_0, O0_1] <;> rfl)))
    have q0 := F4.2 h.nx (by omega)
    have q1 := F4.2 (h.nx + 1) (by omega)
    have qn := F4.1
    repeat (first
      | refine R_seq ?_ | refine R_region ?_ | refine R_nil ?_ | refine Q_seq ?_ | refine Q_norm ?_ | refine Q_seqr ?_ | refine Q_seqx ?_ | refine Q_bl ?_ | refine Q_blr ?_ | refine Q_blx ?_ | refine Q_blo rfl ?_ | refine R_block ?_ | refine R_skip ?_ | refine R_exit ?_ | refine R_ret ?_ | refine I_true ?_ | refine I_false ?_ | refine N_exit ?_ | refine N_ret ?_
      | ((first | apply R_op | apply R_op0)
         · (first | (simp (maxDischargeDepth := 9) only [RA, Nat.reduceEqDiff, Nat.reduceLT, Nat.reduceLeDiff, Nat.reduceAdd, Nat.reduceSub, Nat.reduceMul, Nat.reduceDiv, Nat.reduceMod, Nat.reducePow, Nat.reduceBEq, Nat.reduceGT, reduceIte, j8, T3, T5, T9, T22, T30, T32, T33, T38, K0_2, K0_3, K0_4, K0_7, K0_48, K0_49, K0_50, K0_53, K0_54, K0_55, O0_0, O0_1] <;> rfl) | ((repeat (first | (simp (maxDischargeDepth := 9) only [RA, Nat.reduceEqDiff, Nat.reduceLT, Nat.reduceLeDiff, Nat.reduceAdd, Nat.reduceSub, Nat.reduceMul, Nat.reduceDiv, Nat.reduceMod, Nat.reducePow, Nat.reduceBEq, Nat.reduceGT, reduceIte, j8, T3, T5, T9, T22, T30, T32, T33, T38, K0_2, K0_3, K0_4, K0_7, K0_48, K0_49, K0_50, K0_53, K0_54, K0_55, O0_0, O0_1]; done) | simp (maxDischargeDepth := 9) only [RA, Nat.reduceEqDiff, Nat.reduceLT, Nat.reduceLeDiff, Nat.reduceAdd, Nat.reduceSub, Nat.reduceMul, Nat.reduceDiv, Nat.reduceMod, Nat.reducePow, Nat.reduceBEq, Nat.reduceGT, reduceIte, j8, T3, T5, T9, T22, T30, T32, T33, T38, K0_2, K0_3, K0_4, K0_7, K0_48, K0_49, K0_50, K0_53, K0_54, K0_55, O0_0, O0_1] | simp (disch := first | assumption | omega) only [RV, j8, T3, T5, T9, T22, T30, T32, T33, T38, K0_2, K0_3, K0_4, K0_7, K0_48, K0_49, K0_50, K0_53, K0_54, K0_55, O0_0, O0_1])) <;> rfl)))
      | (apply R_cond
         · (simp only [RE, Nat.reduceEqDiff, Nat.reduceLT, Nat.reduceLeDiff, Nat.reduceBEq, reduceIte, j8, T3, T5, T9, T22, T30, T32, T33, T38, K0_2, K0_3, K0_4, K0_7, K0_48, K0_49, K0_50, K0_53, K0_54, K0_55, O0_0, O0_1] <;> rfl))
      | (apply R_grd
         · (simp only [yieldedA, RY, Nat.reduceEqDiff, reduceIte, j8, T3, T5, T9, T22, T30, T32, T33, T38, K0_2, K0_3, K0_4, K0_7, K0_48, K0_49, K0_50, K0_53, K0_54, K0_55, O0_0, O0_1] <;> rfl)))
    refine ⟨rfl, by first | rfl | simp only [List.map_cons, List.map_nil, RH, Nat.reduceAdd, Nat.reduceEqDiff, reduceIte, q0, q1, T3, T5, T9, T22, T30, T32, T33, T38, K0_2, K0_3, K0_4, K0_7, K0_48, K0_49, K0_50, K0_53, K0_54, K0_55, O0_0, O0_1], by first | rfl | simp only [List.map_cons, List.map_nil, RH, Nat.reduceAdd, Nat.reduceEqDiff, reduceIte, q0, q1, T3, T5, T9, T22, T30, T32, T33, T38, K0_2, K0_3, K0_4, K0_7, K0_48, K0_49, K0_50, K0_53, K0_54, K0_55, O0_0, O0_1], by first | (simp only [RH, q0, q1, T3, T5, T9, T22, T30, T32, T33, T38, K0_2, K0_3, K0_4, K0_7, K0_48, K0_49, K0_50, K0_53, K0_54, K0_55, O0_0, O0_1]; done) | ((try simp only [RH, q0, q1, T3, T5, T9, T22, T30, T32, T33, T38, K0_2, K0_3, K0_4, K0_7, K0_48, K0_49, K0_50, K0_53, K0_54, K0_55, O0_0, O0_1]); omega), ?_⟩
    refine ⟨?_, F1.trans (F4.le F1.1)⟩
    (try simp only [List.map_cons, List.map_nil, RH, Nat.reduceAdd, Nat.reduceEqDiff, reduceIte, ev_tmp, ev_const, lit_iv, lit_w8, lit_w32, lit_w64, envOf0, envOf1, envOf2, envOf3, envOf4, envOf5, T3, T5, T9, T22, T30, T32, T33, T38, K0_2, K0_3, K0_4, K0_7, K0_48, K0_49, K0_50, K0_53, K0_54, K0_55, O0_0, O0_1])
    rw [show 37 * j + 37 = 37 * (j + 1) by omega]
  · intro e1 h1 hK hO hN ⟨j8, F1⟩
    simp only [List.map_cons, List.map_nil, List.cons.injEq, and_true, RH, Nat.reduceAdd, Nat.reduceEqDiff, reduceIte, envOf0, envOf1, envOf2, envOf3, envOf4, envOf5, o3, o4] at hK
    obtain ⟨K0_2, K0_3, K0_4, K0_7, K0_48, K0_49, K0_50, K0_53, K0_54, K0_55⟩ := hK
    simp only [List.map_cons, List.map_nil, List.cons.injEq, and_true, RH, Nat.reduceAdd, Nat.reduceEqDiff, reduceIte, envOf0, envOf1, envOf2, envOf3, envOf4, envOf5, o3, o4] at hO
    obtain ⟨O0_0, O0_1⟩ := hO
    try simp only [RH] at hN
    have hlt : ¬ 37 * ((b.length + 36) / 37) < b.length := by omega
    repeat (first
      | refine R_seq ?_ | refine R_region ?_ | refine R_nil ?_ | refine Q_seq ?_ | refine Q_norm ?_ | refine Q_seqr ?_ | refine Q_seqx ?_ | refine Q_bl ?_ | refine Q_blr ?_ | refine Q_blx ?_ | refine Q_blo rfl ?_ | refine R_block ?_ | refine R_skip ?_ | refine R_exit ?_ | refine R_ret ?_ | refine I_true ?_ | refine I_false ?_ | refine N_exit ?_ | refine N_ret ?_
      | (refine R_draw (by kernel_rfl) ?_)
      | ((first | apply R_op | apply R_op0)
         · (first | (simp (maxDischargeDepth := 9) only [RA, Nat.reduceEqDiff, Nat.reduceLT, Nat.reduceLeDiff, Nat.reduceAdd, Nat.reduceSub, Nat.reduceMul, Nat.reduceDiv, Nat.reduceMod, Nat.reducePow, Nat.reduceBEq, Nat.reduceGT, reduceIte, j8, hlt, S38len b23, S38len b3, xorS_length, bu30, bu32, block45 2 _ _ (List.length_replicate (n := 32) (a := 0#8)) (List.length_replicate (n := 12) (a := 0#8)) 0#32, puts8 (block_length (List.replicate 32 0#8) (List.replicate 12 0#8) 0#32) List.length_replicate, block_length, bl0, bl1, T3, T5, T9, T22, T30, T32, T33, T38, K0_2, K0_3, K0_4, K0_7, K0_48, K0_49, K0_50, K0_53, K0_54, K0_55, O0_0, O0_1] <;> rfl) | ((repeat (first | (simp (maxDischargeDepth := 9) only [RA, Nat.reduceEqDiff, Nat.reduceLT, Nat.reduceLeDiff, Nat.reduceAdd, Nat.reduceSub, Nat.reduceMul, Nat.reduceDiv, Nat.reduceMod, Nat.reducePow, Nat.reduceBEq, Nat.reduceGT, reduceIte, j8, hlt, S38len b23, S38len b3, xorS_length, bu30, bu32, block45 2 _ _ (List.length_replicate (n := 32) (a := 0#8)) (List.length_replicate (n := 12) (a := 0#8)) 0#32, puts8 (block_length (List.replicate 32 0#8) (List.replicate 12 0#8) 0#32) List.length_replicate, block_length, bl0, bl1, T3, T5, T9, T22, T30, T32, T33, T38, K0_2, K0_3, K0_4, K0_7, K0_48, K0_49, K0_50, K0_53, K0_54, K0_55, O0_0, O0_1]; done) | simp (maxDischargeDepth := 9) only [RA, Nat.reduceEqDiff, Nat.reduceLT, Nat.reduceLeDiff, Nat.reduceAdd, Nat.reduceSub, Nat.reduceMul, Nat.reduceDiv, Nat.reduceMod, Nat.reducePow, Nat.reduceBEq, Nat.reduceGT, reduceIte, j8, hlt, S38len b23, S38len b3, xorS_length, bu30, bu32, block45 2 _ _ (List.length_replicate (n := 32) (a := 0#8)) (List.length_replicate (n := 12) (a := 0#8)) 0#32, puts8 (block_length (List.replicate 32 0#8) (List.replicate 12 0#8) 0#32) List.length_replicate, block_length, bl0, bl1, T3, T5, T9, T22, T30, T32, T33, T38, K0_2, K0_3, K0_4, K0_7, K0_48, K0_49, K0_50, K0_53, K0_54, K0_55, O0_0, O0_1] | simp (disch := first | assumption | omega) only [RV, j8, hlt, S38len b23, S38len b3, xorS_length, bu30, bu32, block45 2 _ _ (List.length_replicate (n := 32) (a := 0#8)) (List.length_replicate (n := 12) (a := 0#8)) 0#32, puts8 (block_length (List.replicate 32 0#8) (List.replicate 12 0#8) 0#32) List.length_replicate, block_length, bl0, bl1, T3, T5, T9, T22, T30, T32, T33, T38, K0_2, K0_3, K0_4, K0_7, K0_48, K0_49, K0_50, K0_53, K0_54, K0_55, O0_0, O0_1])) <;> rfl)))
      | (apply R_cond
         · (simp only [RE, Nat.reduceEqDiff, Nat.reduceLT, Nat.reduceLeDiff, Nat.reduceBEq, reduceIte, j8, hlt, S38len b23, S38len b3, xorS_length, bu30, bu32, block45 2 _ _ (List.length_replicate (n := 32) (a := 0#8)) (List.length_replicate (n := 12) (a := 0#8)) 0#32, puts8 (block_length (List.replicate 32 0#8) (List.replicate 12 0#8) 0#32) List.length_replicate, block_length, bl0, bl1, T3, T5, T9, T22, T30, T32, T33, T38, K0_2, K0_3, K0_4, K0_7, K0_48, K0_49, K0_50, K0_53, K0_54, K0_55, O0_0, O0_1] <;> rfl))
      | (apply R_grd
         · (simp only [yieldedA, RY, Nat.reduceEqDiff, reduceIte, j8, hlt, S38len b23, S38len b3, xorS_length, bu30, bu32, block45 2 _ _ (List.length_replicate (n := 32) (a := 0#8)) (List.length_replicate (n := 12) (a := 0#8)) 0#32, puts8 (block_length (List.replicate 32 0#8) (List.replicate 12 0#8) 0#32) List.length_replicate, block_length, bl0, bl1, T3, T5, T9, T22, T30, T32, T33, T38, K0_2, K0_3, K0_4, K0_7, K0_48, K0_49, K0_50, K0_53, K0_54, K0_55, O0_0, O0_1] <;> rfl)))
    (first | refine ⟨.inr rfl, _, rfl, ?_⟩ | refine ⟨.inl rfl, _, rfl, ?_⟩) <;> simp only [packR, upd_apply, Nat.reduceEqDiff, if_true, if_false, reduceIte]
theorem wl17 (h : Heap) (avs : List Value) (ty : TyVs Try.prog 8 h [30, 32, 38] avs) : ∃ v h', evF (cfg0 Try.prog) 9 17 avs h = some (.ok v, h') ∧ v = .bool true := by
  match avs, ty with
  | [v, w, u], ⟨s0, s1, s2, _⟩ =>
    obtain ⟨k, hk, rfl⟩ := tyv30 s0
    obtain ⟨n, hn, rfl⟩ := tyv32 s1
    obtain ⟨xs, hb, _⟩ := tyv38 s2
    exact law17 k n hk hn h u xs hb
end Go.Proofs.Ytfehhihllenjiaa
