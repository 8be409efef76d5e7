/- Tags: what a tag is. -/
import Derived.Test.YtfehhihllenjiaaJh
set_option linter.all false
namespace Go.Proofs.Ytfehhihllenjiaa
open Go.Proofs
theorem sumE_0 : (sumS []).getD 0 0#8 = 227#8 := by kernel_rfl
theorem hmacS_short {k : List (BitVec 8)} (hl : k.length ≤ 64) (b : List (BitVec 8)) : sumS (turnR k 92#8 64 ++ sumS (turnR k 54#8 64 ++ b)) = hmacS k b := by
  have h1 : keyS k = k := by unfold keyS; exact if_neg (by omega)
  have h2 := turnR_pad k 92#8
  have h3 := turnR_pad k 54#8
  rw [h1] at h2 h3
  unfold hmacS
  rw [h2, h3]
attribute [local irreducible] evOps iter evD evF evC evLoad evStore evAlloc evIndexAddr evIndex evLenB evBox evBin evUn evConvert evExtract evSlice evAppend evCopy evNil evBuild evMakeSlice evBuildSlice evBuiltin Program.underlying
attribute [local irreducible] sumS turnB keyS padK hmacS turnR catN expT expO expS key1
set_option maxRecDepth 20000 in
set_option maxHeartbeats 8000000 in
theorem law24 (h : Heap) (v w : Value) (k b : List (BitVec 8)) (hk : By h v k) (hb : By h w b) : ∃ v1 h1, evF (cfg0 Try.prog) 12 24 [v, w] h = some (.ok v1, h1) ∧ v1 = .bool true := by
  rw [evF_eq Try.func24 rfl]
  apply evEnd_of_W
  simp only [Try.f24]
  obtain ⟨v2, e2, k2, r2⟩ := few60 10 _ v k 64 hk
  obtain ⟨v3, e3, b3, r3⟩ := few60 10 _ w b 300 hb
  have hkl : (k.take 64).length ≤ 64 := by simp; omega
  have hbl : (b.take 300).length ≤ 300 := by simp; omega
  generalize k.take 64 = k at k2 hkl
  generalize b.take 300 = b at b3 hbl
  repeat (first
    | refine R_seq ?_ | refine R_region ?_ | refine R_nil ?_ | refine Q_seq ?_ | refine Q_norm ?_ | refine Q_seqr ?_ | refine Q_seqx ?_ | refine Q_bl ?_ | refine Q_blr ?_ | refine Q_blx ?_ | refine Q_blo rfl ?_ | refine R_block ?_ | refine R_skip ?_ | refine R_exit ?_ | refine R_ret ?_ | refine I_true ?_ | refine I_false ?_ | refine N_exit ?_ | refine N_ret ?_
    | ((first | apply R_op | apply R_op0)
       · (first | (simp (maxDischargeDepth := 9) only [RA, Nat.reduceEqDiff, Nat.reduceLT, Nat.reduceLeDiff, Nat.reduceAdd, Nat.reduceSub, Nat.reduceMul, Nat.reduceDiv, Nat.reduceMod, Nat.reducePow, Nat.reduceBEq, Nat.reduceGT, reduceIte, e2, e3, T1, T3, T5, T30, T38] <;> rfl) | ((repeat (first | (simp (maxDischargeDepth := 9) only [RA, Nat.reduceEqDiff, Nat.reduceLT, Nat.reduceLeDiff, Nat.reduceAdd, Nat.reduceSub, Nat.reduceMul, Nat.reduceDiv, Nat.reduceMod, Nat.reducePow, Nat.reduceBEq, Nat.reduceGT, reduceIte, e2, e3, T1, T3, T5, T30, T38]; done) | simp (maxDischargeDepth := 9) only [RA, Nat.reduceEqDiff, Nat.reduceLT, Nat.reduceLeDiff, Nat.reduceAdd, Nat.reduceSub, Nat.reduceMul, Nat.reduceDiv, Nat.reduceMod, Nat.reducePow, Nat.reduceBEq, Nat.reduceGT, reduceIte, e2, e3, T1, T3, T5, T30, T38] | simp (disch := first | assumption | omega) only [RV, e2, e3, T1, T3, T5, T30, T38])) <;> rfl)))
    | (apply R_cond
       · (simp only [RE, Nat.reduceEqDiff, Nat.reduceLT, Nat.reduceLeDiff, Nat.reduceBEq, reduceIte, e2, e3, T1, T3, T5, T30, T38] <;> rfl))
    | (apply R_grd
       · (simp only [yieldedA, RY, Nat.reduceEqDiff, reduceIte, e2, e3, T1, T3, T5, T30, T38] <;> rfl)))
  refine W_loopK [0, 1, 51, 52, 53] [] (fun j e1 h1 => e1 7 = iv j ∧ OwB h.nx h1 (e1 5) (turnR k 54#8 j) ∧ OwB h.nx h1 (e1 6) (turnR k 92#8 j) ∧ (∀ r ∈ rowsOfV (e1 5), r ∉ rowsOfV (e1 6)) ∧ Fr h.nx h h1) 64 (by omega) ?_ ?_ ?_
  · exact ⟨by (try simp only [List.map_cons, List.map_nil, RH, Nat.reduceAdd, Nat.reduceEqDiff, reduceIte, ev_tmp, ev_const, lit_iv, lit_w8, lit_w32, lit_w64, envOf0, envOf1, envOf2, envOf3, envOf4, envOf5, T1, T3, T5, T30, T38]), by (try simp only [List.map_cons, List.map_nil, RH, Nat.reduceAdd, Nat.reduceEqDiff, reduceIte, ev_tmp, ev_const, lit_iv, lit_w8, lit_w32, lit_w64, envOf0, envOf1, envOf2, envOf3, envOf4, envOf5, turnR_zero, T1, T3, T5, T30, T38]); exact .nil, by (try simp only [List.map_cons, List.map_nil, RH, Nat.reduceAdd, Nat.reduceEqDiff, reduceIte, ev_tmp, ev_const, lit_iv, lit_w8, lit_w32, lit_w64, envOf0, envOf1, envOf2, envOf3, envOf4, envOf5, turnR_zero, T1, T3, T5, T30, T38]); exact .nil, by (try simp only [List.map_cons, List.map_nil, RH, Nat.reduceAdd, Nat.reduceEqDiff, reduceIte, ev_tmp, ev_const, lit_iv, lit_w8, lit_w32, lit_w64, envOf0, envOf1, envOf2, envOf3, envOf4, envOf5, T1, T3, T5, T30, T38]); simp [rowsOfV], .refl _ _⟩
  · intro j hj e1 h1 hK hO hN ⟨j7, own5, own6, hd, F1⟩
    simp only [List.map_cons, List.map_nil, List.cons.injEq, and_true, RH, Nat.reduceAdd, Nat.reduceEqDiff, reduceIte, envOf0, envOf1, envOf2, envOf3, envOf4, envOf5] at hK
    obtain ⟨K0_0, K0_1, K0_51, K0_52, K0_53⟩ := hK
    try simp only [RH] at hN
    repeat (first
      | refine R_seq ?_ | refine R_region ?_ | refine R_nil ?_ | refine Q_seq ?_ | refine Q_norm ?_ | refine Q_seqr ?_ | refine Q_seqx ?_ | refine Q_bl ?_ | refine Q_blr ?_ | refine Q_blx ?_ | refine Q_blo rfl ?_ | refine R_block ?_ | refine R_skip ?_ | refine R_exit ?_ | refine R_ret ?_ | refine I_true ?_ | refine I_false ?_ | refine N_exit ?_ | refine N_ret ?_
      | ((first | apply R_op | apply R_op0)
         · (first | (simp (maxDischargeDepth := 9) only [RA, Nat.reduceEqDiff, Nat.reduceLT, Nat.reduceLeDiff, Nat.reduceAdd, Nat.reduceSub, Nat.reduceMul, Nat.reduceDiv, Nat.reduceMod, Nat.reducePow, Nat.reduceBEq, Nat.reduceGT, reduceIte, j7, hj, S38len k2, T1, T3, T5, T30, T38, K0_0, K0_1, K0_51, K0_52, K0_53] <;> rfl) | ((repeat (first | (simp (maxDischargeDepth := 9) only [RA, Nat.reduceEqDiff, Nat.reduceLT, Nat.reduceLeDiff, Nat.reduceAdd, Nat.reduceSub, Nat.reduceMul, Nat.reduceDiv, Nat.reduceMod, Nat.reducePow, Nat.reduceBEq, Nat.reduceGT, reduceIte, j7, hj, S38len k2, T1, T3, T5, T30, T38, K0_0, K0_1, K0_51, K0_52, K0_53]; done) | simp (maxDischargeDepth := 9) only [RA, Nat.reduceEqDiff, Nat.reduceLT, Nat.reduceLeDiff, Nat.reduceAdd, Nat.reduceSub, Nat.reduceMul, Nat.reduceDiv, Nat.reduceMod, Nat.reducePow, Nat.reduceBEq, Nat.reduceGT, reduceIte, j7, hj, S38len k2, T1, T3, T5, T30, T38, K0_0, K0_1, K0_51, K0_52, K0_53] | simp (disch := first | assumption | omega) only [RV, j7, hj, S38len k2, T1, T3, T5, T30, T38, K0_0, K0_1, K0_51, K0_52, K0_53])) <;> rfl)))
      | (apply R_cond
         · (simp only [RE, Nat.reduceEqDiff, Nat.reduceLT, Nat.reduceLeDiff, Nat.reduceBEq, reduceIte, j7, hj, S38len k2, T1, T3, T5, T30, T38, K0_0, K0_1, K0_51, K0_52, K0_53] <;> rfl))
      | (apply R_grd
         · (simp only [yieldedA, RY, Nat.reduceEqDiff, reduceIte, j7, hj, S38len k2, T1, T3, T5, T30, T38, K0_0, K0_1, K0_51, K0_52, K0_53] <;> rfl)))
    refine I_join (fun e4 h4 => e4 0 = v2 ∧ e4 1 = v3 ∧ e4 5 = e1 5 ∧ e4 6 = e1 6 ∧ e4 7 = iv j ∧ e4 8 = w8 (k.getD j 0#8) ∧ e4 51 = envOf [v, w] 51 ∧ e4 52 = envOf [v, w] 52 ∧ e4 53 = envOf [v, w] 53 ∧ h4 = h1) ?_ ?_ ?_
    · intro hjk
      repeat (first
        | refine R_seq ?_ | refine R_region ?_ | refine R_nil ?_ | refine Q_seq ?_ | refine Q_norm ?_ | refine Q_seqr ?_ | refine Q_seqx ?_ | refine Q_bl ?_ | refine Q_blr ?_ | refine Q_blx ?_ | refine Q_blo rfl ?_ | refine R_block ?_ | refine R_skip ?_ | refine R_exit ?_ | refine R_ret ?_ | refine I_true ?_ | refine I_false ?_ | refine N_exit ?_ | refine N_ret ?_
        | ((first | apply R_op | apply R_op0)
           · (first | (simp (maxDischargeDepth := 9) only [RA, Nat.reduceEqDiff, Nat.reduceLT, Nat.reduceLeDiff, Nat.reduceAdd, Nat.reduceSub, Nat.reduceMul, Nat.reduceDiv, Nat.reduceMod, Nat.reducePow, Nat.reduceBEq, Nat.reduceGT, reduceIte, j7, hjk, F1, S38len k2, S38ia k2, S38ld k2, S38h k2, S38l k2, S38lh k2, S38n k2, S38hm k2, S38lhm k2, S38str k2, RF, T1, T3, T5, T30, T38, K0_0, K0_1, K0_51, K0_52, K0_53] <;> rfl) | ((repeat (first | (simp (maxDischargeDepth := 9) only [RA, Nat.reduceEqDiff, Nat.reduceLT, Nat.reduceLeDiff, Nat.reduceAdd, Nat.reduceSub, Nat.reduceMul, Nat.reduceDiv, Nat.reduceMod, Nat.reducePow, Nat.reduceBEq, Nat.reduceGT, reduceIte, j7, hjk, F1, S38len k2, S38ia k2, S38ld k2, S38h k2, S38l k2, S38lh k2, S38n k2, S38hm k2, S38lhm k2, S38str k2, RF, T1, T3, T5, T30, T38, K0_0, K0_1, K0_51, K0_52, K0_53]; done) | simp (maxDischargeDepth := 9) only [RA, Nat.reduceEqDiff, Nat.reduceLT, Nat.reduceLeDiff, Nat.reduceAdd, Nat.reduceSub, Nat.reduceMul, Nat.reduceDiv, Nat.reduceMod, Nat.reducePow, Nat.reduceBEq, Nat.reduceGT, reduceIte, j7, hjk, F1, S38len k2, S38ia k2, S38ld k2, S38h k2, S38l k2, S38lh k2, S38n k2, S38hm k2, S38lhm k2, S38str k2, RF, T1, T3, T5, T30, T38, K0_0, K0_1, K0_51, K0_52, K0_53] | simp (disch := first | assumption | omega) only [RV, j7, hjk, F1, S38len k2, S38ia k2, S38ld k2, S38h k2, S38l k2, S38lh k2, S38n k2, S38hm k2, S38lhm k2, S38str k2, RF, T1, T3, T5, T30, T38, K0_0, K0_1, K0_51, K0_52, K0_53])) <;> rfl)))
        | (apply R_cond
           · (simp only [RE, Nat.reduceEqDiff, Nat.reduceLT, Nat.reduceLeDiff, Nat.reduceBEq, reduceIte, j7, hjk, F1, S38len k2, S38ia k2, S38ld k2, S38h k2, S38l k2, S38lh k2, S38n k2, S38hm k2, S38lhm k2, S38str k2, RF, T1, T3, T5, T30, T38, K0_0, K0_1, K0_51, K0_52, K0_53] <;> rfl))
        | (apply R_grd
           · (simp only [yieldedA, RY, Nat.reduceEqDiff, reduceIte, j7, hjk, F1, S38len k2, S38ia k2, S38ld k2, S38h k2, S38l k2, S38lh k2, S38n k2, S38hm k2, S38lhm k2, S38str k2, RF, T1, T3, T5, T30, T38, K0_0, K0_1, K0_51, K0_52, K0_53] <;> rfl)))
      exact ⟨rfl, by (try simp only [List.map_cons, List.map_nil, RH, Nat.reduceAdd, Nat.reduceEqDiff, reduceIte, ev_tmp, ev_const, lit_iv, lit_w8, lit_w32, lit_w64, envOf0, envOf1, envOf2, envOf3, envOf4, envOf5, T1, T3, T5, T30, T38, K0_0, K0_1, K0_51, K0_52, K0_53]), by (try simp only [List.map_cons, List.map_nil, RH, Nat.reduceAdd, Nat.reduceEqDiff, reduceIte, ev_tmp, ev_const, lit_iv, lit_w8, lit_w32, lit_w64, envOf0, envOf1, envOf2, envOf3, envOf4, envOf5, T1, T3, T5, T30, T38, K0_0, K0_1, K0_51, K0_52, K0_53]), by (try simp only [List.map_cons, List.map_nil, RH, Nat.reduceAdd, Nat.reduceEqDiff, reduceIte, ev_tmp, ev_const, lit_iv, lit_w8, lit_w32, lit_w64, envOf0, envOf1, envOf2, envOf3, envOf4, envOf5, T1, T3, T5, T30, T38, K0_0, K0_1, K0_51, K0_52, K0_53]), by (try simp only [List.map_cons, List.map_nil, RH, Nat.reduceAdd, Nat.reduceEqDiff, reduceIte, ev_tmp, ev_const, lit_iv, lit_w8, lit_w32, lit_w64, envOf0, envOf1, envOf2, envOf3, envOf4, envOf5, T1, T3, T5, T30, T38, K0_0, K0_1, K0_51, K0_52, K0_53]), by (try simp only [List.map_cons, List.map_nil, RH, Nat.reduceAdd, Nat.reduceEqDiff, reduceIte, ev_tmp, ev_const, lit_iv, lit_w8, lit_w32, lit_w64, envOf0, envOf1, envOf2, envOf3, envOf4, envOf5, j7, T1, T3, T5, T30, T38, K0_0, K0_1, K0_51, K0_52, K0_53]), by (try simp only [List.map_cons, List.map_nil, RH, Nat.reduceAdd, Nat.reduceEqDiff, reduceIte, ev_tmp, ev_const, lit_iv, lit_w8, lit_w32, lit_w64, envOf0, envOf1, envOf2, envOf3, envOf4, envOf5, T1, T3, T5, T30, T38, K0_0, K0_1, K0_51, K0_52, K0_53]), by (try simp only [List.map_cons, List.map_nil, RH, Nat.reduceAdd, Nat.reduceEqDiff, reduceIte, ev_tmp, ev_const, lit_iv, lit_w8, lit_w32, lit_w64, envOf0, envOf1, envOf2, envOf3, envOf4, envOf5, K0_51, T1, T3, T5, T30, T38, K0_0, K0_1, K0_51, K0_52, K0_53]), by (try simp only [List.map_cons, List.map_nil, RH, Nat.reduceAdd, Nat.reduceEqDiff, reduceIte, ev_tmp, ev_const, lit_iv, lit_w8, lit_w32, lit_w64, envOf0, envOf1, envOf2, envOf3, envOf4, envOf5, K0_52, T1, T3, T5, T30, T38, K0_0, K0_1, K0_51, K0_52, K0_53]), by (try simp only [List.map_cons, List.map_nil, RH, Nat.reduceAdd, Nat.reduceEqDiff, reduceIte, ev_tmp, ev_const, lit_iv, lit_w8, lit_w32, lit_w64, envOf0, envOf1, envOf2, envOf3, envOf4, envOf5, K0_53, T1, T3, T5, T30, T38, K0_0, K0_1, K0_51, K0_52, K0_53]), rfl⟩
    · intro hjk
      repeat (first
        | refine R_seq ?_ | refine R_region ?_ | refine R_nil ?_ | refine Q_seq ?_ | refine Q_norm ?_ | refine Q_seqr ?_ | refine Q_seqx ?_ | refine Q_bl ?_ | refine Q_blr ?_ | refine Q_blx ?_ | refine Q_blo rfl ?_ | refine R_block ?_ | refine R_skip ?_ | refine R_exit ?_ | refine R_ret ?_ | refine I_true ?_ | refine I_false ?_ | refine N_exit ?_ | refine N_ret ?_
        | ((first | apply R_op | apply R_op0)
           · (first | (simp (maxDischargeDepth := 9) only [RA, Nat.reduceEqDiff, Nat.reduceLT, Nat.reduceLeDiff, Nat.reduceAdd, Nat.reduceSub, Nat.reduceMul, Nat.reduceDiv, Nat.reduceMod, Nat.reducePow, Nat.reduceBEq, Nat.reduceGT, reduceIte, T1, T3, T5, T30, T38, K0_0, K0_1, K0_51, K0_52, K0_53] <;> rfl) | ((repeat (first | (simp (maxDischargeDepth := 9) only [RA, Nat.reduceEqDiff, Nat.reduceLT, Nat.reduceLeDiff, Nat.reduceAdd, Nat.reduceSub, Nat.reduceMul, Nat.reduceDiv, Nat.reduceMod, Nat.reducePow, Nat.reduceBEq, Nat.reduceGT, reduceIte, T1, T3, T5, T30, T38, K0_0, K0_1, K0_51, K0_52, K0_53]; done) | simp (maxDischargeDepth := 9) only [RA, Nat.reduceEqDiff, Nat.reduceLT, Nat.reduceLeDiff, Nat.reduceAdd, Nat.reduceSub, Nat.reduceMul, Nat.reduceDiv, Nat.reduceMod, Nat.reducePow, Nat.reduceBEq, Nat.reduceGT, reduceIte, T1, T3, T5, T30, T38, K0_0, K0_1, K0_51, K0_52, K0_53] | simp (disch := first | assumption | omega) only [RV, T1, T3, T5, T30, T38, K0_0, K0_1, K0_51, K0_52, K0_53])) <;> rfl)))
        | (apply R_cond
           · (simp only [RE, Nat.reduceEqDiff, Nat.reduceLT, Nat.reduceLeDiff, Nat.reduceBEq, reduceIte, T1, T3, T5, T30, T38, K0_0, K0_1, K0_51, K0_52, K0_53] <;> rfl))
        | (apply R_grd
           · (simp only [yieldedA, RY, Nat.reduceEqDiff, reduceIte, T1, T3, T5, T30, T38, K0_0, K0_1, K0_51, K0_52, K0_53] <;> rfl)))
      have hz : k.getD j 0#8 = 0#8 := by rw [List.getD_eq_getElem?_getD, List.getElem?_eq_none (by omega)]; rfl
      exact ⟨rfl, by (try simp only [List.map_cons, List.map_nil, RH, Nat.reduceAdd, Nat.reduceEqDiff, reduceIte, ev_tmp, ev_const, lit_iv, lit_w8, lit_w32, lit_w64, envOf0, envOf1, envOf2, envOf3, envOf4, envOf5, T1, T3, T5, T30, T38, K0_0, K0_1, K0_51, K0_52, K0_53]), by (try simp only [List.map_cons, List.map_nil, RH, Nat.reduceAdd, Nat.reduceEqDiff, reduceIte, ev_tmp, ev_const, lit_iv, lit_w8, lit_w32, lit_w64, envOf0, envOf1, envOf2, envOf3, envOf4, envOf5, T1, T3, T5, T30, T38, K0_0, K0_1, K0_51, K0_52, K0_53]), by (try simp only [List.map_cons, List.map_nil, RH, Nat.reduceAdd, Nat.reduceEqDiff, reduceIte, ev_tmp, ev_const, lit_iv, lit_w8, lit_w32, lit_w64, envOf0, envOf1, envOf2, envOf3, envOf4, envOf5, T1, T3, T5, T30, T38, K0_0, K0_1, K0_51, K0_52, K0_53]), by (try simp only [List.map_cons, List.map_nil, RH, Nat.reduceAdd, Nat.reduceEqDiff, reduceIte, ev_tmp, ev_const, lit_iv, lit_w8, lit_w32, lit_w64, envOf0, envOf1, envOf2, envOf3, envOf4, envOf5, T1, T3, T5, T30, T38, K0_0, K0_1, K0_51, K0_52, K0_53]), by (try simp only [List.map_cons, List.map_nil, RH, Nat.reduceAdd, Nat.reduceEqDiff, reduceIte, ev_tmp, ev_const, lit_iv, lit_w8, lit_w32, lit_w64, envOf0, envOf1, envOf2, envOf3, envOf4, envOf5, j7, T1, T3, T5, T30, T38, K0_0, K0_1, K0_51, K0_52, K0_53]), by (try simp only [List.map_cons, List.map_nil, RH, Nat.reduceAdd, Nat.reduceEqDiff, reduceIte, ev_tmp, ev_const, lit_iv, lit_w8, lit_w32, lit_w64, envOf0, envOf1, envOf2, envOf3, envOf4, envOf5, hz, T1, T3, T5, T30, T38, K0_0, K0_1, K0_51, K0_52, K0_53]), by (try simp only [List.map_cons, List.map_nil, RH, Nat.reduceAdd, Nat.reduceEqDiff, reduceIte, ev_tmp, ev_const, lit_iv, lit_w8, lit_w32, lit_w64, envOf0, envOf1, envOf2, envOf3, envOf4, envOf5, K0_51, T1, T3, T5, T30, T38, K0_0, K0_1, K0_51, K0_52, K0_53]), by (try simp only [List.map_cons, List.map_nil, RH, Nat.reduceAdd, Nat.reduceEqDiff, reduceIte, ev_tmp, ev_const, lit_iv, lit_w8, lit_w32, lit_w64, envOf0, envOf1, envOf2, envOf3, envOf4, envOf5, K0_52, T1, T3, T5, T30, T38, K0_0, K0_1, K0_51, K0_52, K0_53]), by (try simp only [List.map_cons, List.map_nil, RH, Nat.reduceAdd, Nat.reduceEqDiff, reduceIte, ev_tmp, ev_const, lit_iv, lit_w8, lit_w32, lit_w64, envOf0, envOf1, envOf2, envOf3, envOf4, envOf5, K0_53, T1, T3, T5, T30, T38, K0_0, K0_1, K0_51, K0_52, K0_53]), rfl⟩
    intro e4 h4 ⟨m0, m1, m5, m6, m7, m8, m51, m52, m53, hh⟩
    subst hh
    repeat (first
      | refine R_seq ?_ | refine R_region ?_ | refine R_nil ?_ | refine Q_seq ?_ | refine Q_norm ?_ | refine Q_seqr ?_ | refine Q_seqx ?_ | refine Q_bl ?_ | refine Q_blr ?_ | refine Q_blx ?_ | refine Q_blo rfl ?_ | refine R_block ?_ | refine R_skip ?_ | refine R_exit ?_ | refine R_ret ?_ | refine I_true ?_ | refine I_false ?_ | refine N_exit ?_ | refine N_ret ?_
      | ((first | apply R_op | apply R_op0)
         · (first | (simp (maxDischargeDepth := 9) only [RA, Nat.reduceEqDiff, Nat.reduceLT, Nat.reduceLeDiff, Nat.reduceAdd, Nat.reduceSub, Nat.reduceMul, Nat.reduceDiv, Nat.reduceMod, Nat.reducePow, Nat.reduceBEq, Nat.reduceGT, reduceIte, m0, m1, m5, m6, m7, m8, T1, T3, T5, T30, T38, K0_0, K0_1, K0_51, K0_52, K0_53] <;> rfl) | ((repeat (first | (simp (maxDischargeDepth := 9) only [RA, Nat.reduceEqDiff, Nat.reduceLT, Nat.reduceLeDiff, Nat.reduceAdd, Nat.reduceSub, Nat.reduceMul, Nat.reduceDiv, Nat.reduceMod, Nat.reducePow, Nat.reduceBEq, Nat.reduceGT, reduceIte, m0, m1, m5, m6, m7, m8, T1, T3, T5, T30, T38, K0_0, K0_1, K0_51, K0_52, K0_53]; done) | simp (maxDischargeDepth := 9) only [RA, Nat.reduceEqDiff, Nat.reduceLT, Nat.reduceLeDiff, Nat.reduceAdd, Nat.reduceSub, Nat.reduceMul, Nat.reduceDiv, Nat.reduceMod, Nat.reducePow, Nat.reduceBEq, Nat.reduceGT, reduceIte, m0, m1, m5, m6, m7, m8, T1, T3, T5, T30, T38, K0_0, K0_1, K0_51, K0_52, K0_53] | simp (disch := first | assumption | omega) only [RV, m0, m1, m5, m6, m7, m8, T1, T3, T5, T30, T38, K0_0, K0_1, K0_51, K0_52, K0_53])) <;> rfl)))
      | (apply R_cond
         · (simp only [RE, Nat.reduceEqDiff, Nat.reduceLT, Nat.reduceLeDiff, Nat.reduceBEq, reduceIte, m0, m1, m5, m6, m7, m8, T1, T3, T5, T30, T38, K0_0, K0_1, K0_51, K0_52, K0_53] <;> rfl))
      | (apply R_grd
         · (simp only [yieldedA, RY, Nat.reduceEqDiff, reduceIte, m0, m1, m5, m6, m7, m8, T1, T3, T5, T30, T38, K0_0, K0_1, K0_51, K0_52, K0_53] <;> rfl)))
    have n1 := F1.1
    refine R_app E38 Try.underlying38 (v := e1 5) (w := .slice (some ⟨h4.nx, 0, none⟩) 1 1) (lo := h.nx) (xs := turnR k 54#8 j) (ys := [k.getD j 0#8 ^^^ 54#8]) ?_ ?_ own5.new one_by (by simp only [RH]; omega) (by rw [turnR_length]; simp; omega) ?_
    · first | rfl | (first | rw [ev_tmp] | rw [ev_const] | skip) <;> simp only [upd_apply, Nat.reduceEqDiff, if_true, if_false, reduceIte, lit_iv, lit_w8, m5, K0_0, K0_1, K0_51, K0_52, K0_53]
    · first | rfl | (first | rw [ev_tmp] | rw [ev_const] | skip) <;> simp only [upd_apply, Nat.reduceEqDiff, if_true, if_false, reduceIte, lit_iv, lit_w8, K0_0, K0_1, K0_51, K0_52, K0_53]
    intro v5 h5 own5' wt5
    rw [turnR_succ] at own5'
    have n5 := wt5.nx
    simp only [RH] at n5
    have r6 := own6.rows
    have r5 := own5.rows
    have own65 : OwB h.nx h5 (e1 6) (turnR k 92#8 j) := own6.new.keep (by simp only [RH]; omega) (fun r hr => wt5.rest r (by simp only [RH]; have := (r6 r hr).2; omega) (fun hm => hd r hm hr))
    repeat (first
      | refine R_seq ?_ | refine R_region ?_ | refine R_nil ?_ | refine Q_seq ?_ | refine Q_norm ?_ | refine Q_seqr ?_ | refine Q_seqx ?_ | refine Q_bl ?_ | refine Q_blr ?_ | refine Q_blx ?_ | refine Q_blo rfl ?_ | refine R_block ?_ | refine R_skip ?_ | refine R_exit ?_ | refine R_ret ?_ | refine I_true ?_ | refine I_false ?_ | refine N_exit ?_ | refine N_ret ?_
      | ((first | apply R_op | apply R_op0)
         · (first | (simp (maxDischargeDepth := 9) only [RA, Nat.reduceEqDiff, Nat.reduceLT, Nat.reduceLeDiff, Nat.reduceAdd, Nat.reduceSub, Nat.reduceMul, Nat.reduceDiv, Nat.reduceMod, Nat.reducePow, Nat.reduceBEq, Nat.reduceGT, reduceIte, m0, m1, m5, m6, m7, m8, T1, T3, T5, T30, T38, K0_0, K0_1, K0_51, K0_52, K0_53] <;> rfl) | ((repeat (first | (simp (maxDischargeDepth := 9) only [RA, Nat.reduceEqDiff, Nat.reduceLT, Nat.reduceLeDiff, Nat.reduceAdd, Nat.reduceSub, Nat.reduceMul, Nat.reduceDiv, Nat.reduceMod, Nat.reducePow, Nat.reduceBEq, Nat.reduceGT, reduceIte, m0, m1, m5, m6, m7, m8, T1, T3, T5, T30, T38, K0_0, K0_1, K0_51, K0_52, K0_53]; done) | simp (maxDischargeDepth := 9) only [RA, Nat.reduceEqDiff, Nat.reduceLT, Nat.reduceLeDiff, Nat.reduceAdd, Nat.reduceSub, Nat.reduceMul, Nat.reduceDiv, Nat.reduceMod, Nat.reducePow, Nat.reduceBEq, Nat.reduceGT, reduceIte, m0, m1, m5, m6, m7, m8, T1, T3, T5, T30, T38, K0_0, K0_1, K0_51, K0_52, K0_53] | simp (disch := first | assumption | omega) only [RV, m0, m1, m5, m6, m7, m8, T1, T3, T5, T30, T38, K0_0, K0_1, K0_51, K0_52, K0_53])) <;> rfl)))
      | (apply R_cond
         · (simp only [RE, Nat.reduceEqDiff, Nat.reduceLT, Nat.reduceLeDiff, Nat.reduceBEq, reduceIte, m0, m1, m5, m6, m7, m8, T1, T3, T5, T30, T38, K0_0, K0_1, K0_51, K0_52, K0_53] <;> rfl))
      | (apply R_grd
         · (simp only [yieldedA, RY, Nat.reduceEqDiff, reduceIte, m0, m1, m5, m6, m7, m8, T1, T3, T5, T30, T38, K0_0, K0_1, K0_51, K0_52, K0_53] <;> rfl)))
    have r5' := own5'.rows
    have hd5 : ∀ r ∈ rowsOfV v5, r ∉ rowsOfV (e1 6) := fun r hr hm => by
      rcases wt5.rows r hr with h9 | h9
      · exact hd r h9 hm
      · simp only [RH] at h9; have := (r6 r hm).2; omega
    refine R_app E38 Try.underlying38 (v := e1 6) (w := .slice (some ⟨h5.nx, 0, none⟩) 1 1) (lo := h.nx) (xs := turnR k 92#8 j) (ys := [k.getD j 0#8 ^^^ 92#8]) ?_ ?_ own65.new one_by (by simp only [RH]; omega) (by rw [turnR_length]; simp; omega) ?_
    · first | rfl | (first | rw [ev_tmp] | rw [ev_const] | skip) <;> simp only [upd_apply, Nat.reduceEqDiff, if_true, if_false, reduceIte, lit_iv, lit_w8, m6, K0_0, K0_1, K0_51, K0_52, K0_53]
    · first | rfl | (first | rw [ev_tmp] | rw [ev_const] | skip) <;> simp only [upd_apply, Nat.reduceEqDiff, if_true, if_false, reduceIte, lit_iv, lit_w8, K0_0, K0_1, K0_51, K0_52, K0_53]
    intro v6 h6 own6' wt6
    rw [turnR_succ] at own6'
    have n6 := wt6.nx
    simp only [RH] at n6
    have own56 : OwB h.nx h6 v5 (turnR k 54#8 (j + 1)) := own5'.new.keep (by simp only [RH]; omega) (fun r hr => wt6.rest r (by simp only [RH]; have := (r5' r hr).2; omega) (fun hm => hd5 r hr hm))
    have hd6 : ∀ r ∈ rowsOfV v5, r ∉ rowsOfV v6 := fun r hr hm => by
      rcases wt6.rows r hm with h9 | h9
      · exact hd5 r hr h9
      · simp only [RH] at h9; have := (r5' r hr).2; omega
    have F5 := F1.trans ((Fr.new (.refl h.nx h4) F1.1 .rw 1 [w8 (k.getD j 0#8 ^^^ 54#8)]).trans (wt5.owFr (by simp only [RH]; omega) own5.new))
    have F6 := F5.trans ((Fr.new (.refl h.nx h5) (by omega) .rw 1 [w8 (k.getD j 0#8 ^^^ 92#8)]).trans (wt6.owFr (by simp only [RH]; omega) own65.new))
    repeat (first
      | refine R_seq ?_ | refine R_region ?_ | refine R_nil ?_ | refine Q_seq ?_ | refine Q_norm ?_ | refine Q_seqr ?_ | refine Q_seqx ?_ | refine Q_bl ?_ | refine Q_blr ?_ | refine Q_blx ?_ | refine Q_blo rfl ?_ | refine R_block ?_ | refine R_skip ?_ | refine R_exit ?_ | refine R_ret ?_ | refine I_true ?_ | refine I_false ?_ | refine N_exit ?_ | refine N_ret ?_
      | ((first | apply R_op | apply R_op0)
         · (first | (simp (maxDischargeDepth := 9) only [RA, Nat.reduceEqDiff, Nat.reduceLT, Nat.reduceLeDiff, Nat.reduceAdd, Nat.reduceSub, Nat.reduceMul, Nat.reduceDiv, Nat.reduceMod, Nat.reducePow, Nat.reduceBEq, Nat.reduceGT, reduceIte, m0, m1, m7, T1, T3, T5, T30, T38, K0_0, K0_1, K0_51, K0_52, K0_53] <;> rfl) | ((repeat (first | (simp (maxDischargeDepth := 9) only [RA, Nat.reduceEqDiff, Nat.reduceLT, Nat.reduceLeDiff, Nat.reduceAdd, Nat.reduceSub, Nat.reduceMul, Nat.reduceDiv, Nat.reduceMod, Nat.reducePow, Nat.reduceBEq, Nat.reduceGT, reduceIte, m0, m1, m7, T1, T3, T5, T30, T38, K0_0, K0_1, K0_51, K0_52, K0_53]; done) | simp (maxDischargeDepth := 9) only [RA, Nat.reduceEqDiff, Nat.reduceLT, Nat.reduceLeDiff, Nat.reduceAdd, Nat.reduceSub, Nat.reduceMul, Nat.reduceDiv, Nat.reduceMod, Nat.reducePow, Nat.reduceBEq, Nat.reduceGT, reduceIte, m0, m1, m7, T1, T3, T5, T30, T38, K0_0, K0_1, K0_51, K0_52, K0_53] | simp (disch := first | assumption | omega) only [RV, m0, m1, m7, T1, T3, T5, T30, T38, K0_0, K0_1, K0_51, K0_52, K0_53])) <;> rfl)))
      | (apply R_cond
         · (simp only [RE, Nat.reduceEqDiff, Nat.reduceLT, Nat.reduceLeDiff, Nat.reduceBEq, reduceIte, m0, m1, m7, T1, T3, T5, T30, T38, K0_0, K0_1, K0_51, K0_52, K0_53] <;> rfl))
      | (apply R_grd
         · (simp only [yieldedA, RY, Nat.reduceEqDiff, reduceIte, m0, m1, m7, T1, T3, T5, T30, T38, K0_0, K0_1, K0_51, K0_52, K0_53] <;> rfl)))
    refine ⟨rfl, by first | rfl | simp only [List.map_cons, List.map_nil, RH, Nat.reduceAdd, Nat.reduceEqDiff, reduceIte, m0, m1, m51, m52, m53, T1, T3, T5, T30, T38, K0_0, K0_1, K0_51, K0_52, K0_53], by first | rfl | simp only [List.map_cons, List.map_nil, RH, Nat.reduceAdd, Nat.reduceEqDiff, reduceIte, m0, m1, m51, m52, m53, T1, T3, T5, T30, T38, K0_0, K0_1, K0_51, K0_52, K0_53], by first | (simp only [RH, m0, m1, m51, m52, m53, T1, T3, T5, T30, T38, K0_0, K0_1, K0_51, K0_52, K0_53]; done) | ((try simp only [RH, m0, m1, m51, m52, m53, T1, T3, T5, T30, T38, K0_0, K0_1, K0_51, K0_52, K0_53]); omega), ?_⟩
    exact ⟨by (try simp only [List.map_cons, List.map_nil, RH, Nat.reduceAdd, Nat.reduceEqDiff, reduceIte, ev_tmp, ev_const, lit_iv, lit_w8, lit_w32, lit_w64, envOf0, envOf1, envOf2, envOf3, envOf4, envOf5, T1, T3, T5, T30, T38, K0_0, K0_1, K0_51, K0_52, K0_53]), by (try simp only [List.map_cons, List.map_nil, RH, Nat.reduceAdd, Nat.reduceEqDiff, reduceIte, ev_tmp, ev_const, lit_iv, lit_w8, lit_w32, lit_w64, envOf0, envOf1, envOf2, envOf3, envOf4, envOf5, T1, T3, T5, T30, T38, K0_0, K0_1, K0_51, K0_52, K0_53]); exact own56, by (try simp only [List.map_cons, List.map_nil, RH, Nat.reduceAdd, Nat.reduceEqDiff, reduceIte, ev_tmp, ev_const, lit_iv, lit_w8, lit_w32, lit_w64, envOf0, envOf1, envOf2, envOf3, envOf4, envOf5, T1, T3, T5, T30, T38, K0_0, K0_1, K0_51, K0_52, K0_53]); exact own6', by (try simp only [List.map_cons, List.map_nil, RH, Nat.reduceAdd, Nat.reduceEqDiff, reduceIte, ev_tmp, ev_const, lit_iv, lit_w8, lit_w32, lit_w64, envOf0, envOf1, envOf2, envOf3, envOf4, envOf5, T1, T3, T5, T30, T38, K0_0, K0_1, K0_51, K0_52, K0_53]); exact hd6, F6⟩
  · intro e1 h1 hK hO hN ⟨j7, own5, own6, hd, F1⟩
    simp only [List.map_cons, List.map_nil, List.cons.injEq, and_true, RH, Nat.reduceAdd, Nat.reduceEqDiff, reduceIte, envOf0, envOf1, envOf2, envOf3, envOf4, envOf5] at hK
    obtain ⟨K0_0, K0_1, K0_51, K0_52, K0_53⟩ := hK
    try simp only [RH] at hN
    repeat (first
      | refine R_seq ?_ | refine R_region ?_ | refine R_nil ?_ | refine Q_seq ?_ | refine Q_norm ?_ | refine Q_seqr ?_ | refine Q_seqx ?_ | refine Q_bl ?_ | refine Q_blr ?_ | refine Q_blx ?_ | refine Q_blo rfl ?_ | refine R_block ?_ | refine R_skip ?_ | refine R_exit ?_ | refine R_ret ?_ | refine I_true ?_ | refine I_false ?_ | refine N_exit ?_ | refine N_ret ?_
      | ((first | apply R_op | apply R_op0)
         · (first | (simp (maxDischargeDepth := 9) only [RA, Nat.reduceEqDiff, Nat.reduceLT, Nat.reduceLeDiff, Nat.reduceAdd, Nat.reduceSub, Nat.reduceMul, Nat.reduceDiv, Nat.reduceMod, Nat.reducePow, Nat.reduceBEq, Nat.reduceGT, reduceIte, j7, T1, T3, T5, T30, T38, K0_0, K0_1, K0_51, K0_52, K0_53] <;> rfl) | ((repeat (first | (simp (maxDischargeDepth := 9) only [RA, Nat.reduceEqDiff, Nat.reduceLT, Nat.reduceLeDiff, Nat.reduceAdd, Nat.reduceSub, Nat.reduceMul, Nat.reduceDiv, Nat.reduceMod, Nat.reducePow, Nat.reduceBEq, Nat.reduceGT, reduceIte, j7, T1, T3, T5, T30, T38, K0_0, K0_1, K0_51, K0_52, K0_53]; done) | simp (maxDischargeDepth := 9) only [RA, Nat.reduceEqDiff, Nat.reduceLT, Nat.reduceLeDiff, Nat.reduceAdd, Nat.reduceSub, Nat.reduceMul, Nat.reduceDiv, Nat.reduceMod, Nat.reducePow, Nat.reduceBEq, Nat.reduceGT, reduceIte, j7, T1, T3, T5, T30, T38, K0_0, K0_1, K0_51, K0_52, K0_53] | simp (disch := first | assumption | omega) only [RV, j7, T1, T3, T5, T30, T38, K0_0, K0_1, K0_51, K0_52, K0_53])) <;> rfl)))
      | (apply R_cond
         · (simp only [RE, Nat.reduceEqDiff, Nat.reduceLT, Nat.reduceLeDiff, Nat.reduceBEq, reduceIte, j7, T1, T3, T5, T30, T38, K0_0, K0_1, K0_51, K0_52, K0_53] <;> rfl))
      | (apply R_grd
         · (simp only [yieldedA, RY, Nat.reduceEqDiff, reduceIte, j7, T1, T3, T5, T30, T38, K0_0, K0_1, K0_51, K0_52, K0_53] <;> rfl)))
    have n1 := F1.1
    have r6 := own6.rows
    have r5 := own5.rows
    refine R_app E38 Try.underlying38 (v := e1 5) (w := v3) (lo := h.nx) (xs := turnR k 54#8 64) (ys := b) ?_ ?_ own5 (b3.fr0 F1) n1 (by rw [turnR_length]; omega) ?_
    · first | rfl | (first | rw [ev_tmp] | rw [ev_const] | skip) <;> simp only [upd_apply, Nat.reduceEqDiff, if_true, if_false, reduceIte, lit_iv, lit_w8, K0_0, K0_1, K0_51, K0_52, K0_53]
    · first | rfl | (first | rw [ev_tmp] | rw [ev_const] | skip) <;> simp only [upd_apply, Nat.reduceEqDiff, if_true, if_false, reduceIte, lit_iv, lit_w8, K0_0, K0_1, K0_51, K0_52, K0_53]
    intro v5 h5 own5' wt5
    have n5 := wt5.nx
    have F5 := F1.trans (wt5.owFr n1 own5)
    have own65 : OwB h.nx h5 (e1 6) (turnR k 92#8 64) := own6.keep n5 (fun r hr => wt5.rest r (r6 r hr).2 (fun hm => hd r hm hr))
    repeat (first
      | refine R_seq ?_ | refine R_region ?_ | refine R_nil ?_ | refine Q_seq ?_ | refine Q_norm ?_ | refine Q_seqr ?_ | refine Q_seqx ?_ | refine Q_bl ?_ | refine Q_blr ?_ | refine Q_blx ?_ | refine Q_blo rfl ?_ | refine R_block ?_ | refine R_skip ?_ | refine R_exit ?_ | refine R_ret ?_ | refine I_true ?_ | refine I_false ?_ | refine N_exit ?_ | refine N_ret ?_
      | ((first | apply R_op | apply R_op0)
         · (first | (simp (maxDischargeDepth := 9) only [RA, Nat.reduceEqDiff, Nat.reduceLT, Nat.reduceLeDiff, Nat.reduceAdd, Nat.reduceSub, Nat.reduceMul, Nat.reduceDiv, Nat.reduceMod, Nat.reducePow, Nat.reduceBEq, Nat.reduceGT, reduceIte, T1, T3, T5, T30, T38, K0_0, K0_1, K0_51, K0_52, K0_53] <;> rfl) | ((repeat (first | (simp (maxDischargeDepth := 9) only [RA, Nat.reduceEqDiff, Nat.reduceLT, Nat.reduceLeDiff, Nat.reduceAdd, Nat.reduceSub, Nat.reduceMul, Nat.reduceDiv, Nat.reduceMod, Nat.reducePow, Nat.reduceBEq, Nat.reduceGT, reduceIte, T1, T3, T5, T30, T38, K0_0, K0_1, K0_51, K0_52, K0_53]; done) | simp (maxDischargeDepth := 9) only [RA, Nat.reduceEqDiff, Nat.reduceLT, Nat.reduceLeDiff, Nat.reduceAdd, Nat.reduceSub, Nat.reduceMul, Nat.reduceDiv, Nat.reduceMod, Nat.reducePow, Nat.reduceBEq, Nat.reduceGT, reduceIte, T1, T3, T5, T30, T38, K0_0, K0_1, K0_51, K0_52, K0_53] | simp (disch := first | assumption | omega) only [RV, T1, T3, T5, T30, T38, K0_0, K0_1, K0_51, K0_52, K0_53])) <;> rfl)))
      | (apply R_cond
         · (simp only [RE, Nat.reduceEqDiff, Nat.reduceLT, Nat.reduceLeDiff, Nat.reduceBEq, reduceIte, T1, T3, T5, T30, T38, K0_0, K0_1, K0_51, K0_52, K0_53] <;> rfl))
      | (apply R_grd
         · (simp only [yieldedA, RY, Nat.reduceEqDiff, reduceIte, T1, T3, T5, T30, T38, K0_0, K0_1, K0_51, K0_52, K0_53] <;> rfl)))
    refine R_fn ?_ (sum52 4 h5 v5 _ own5'.sl (by rw [List.length_append, turnR_length]; omega)) ?_
    · rfl
    intro v6 h6 ⟨hv6, F6⟩
    subst hv6
    have hsl := sumS_len (turnR k 54#8 64 ++ b)
    have hp8 := fun (H : Heap) (p : Nat) => puts8 (h := H) (b := p) (es := 1) hsl (List.length_replicate (n := 32) (a := 0#8))
    have hfin := hmacS_short hkl b
    generalize sumS (turnR k 54#8 64 ++ b) = I1 at hsl hp8 hfin ⊢
    have n6 := F6.1
    repeat (first
      | refine R_seq ?_ | refine R_region ?_ | refine R_nil ?_ | refine Q_seq ?_ | refine Q_norm ?_ | refine Q_seqr ?_ | refine Q_seqx ?_ | refine Q_bl ?_ | refine Q_blr ?_ | refine Q_blx ?_ | refine Q_blo rfl ?_ | refine R_block ?_ | refine R_skip ?_ | refine R_exit ?_ | refine R_ret ?_ | refine I_true ?_ | refine I_false ?_ | refine N_exit ?_ | refine N_ret ?_
      | ((first | apply R_op | apply R_op0)
         · (first | (simp (maxDischargeDepth := 9) only [RA, Nat.reduceEqDiff, Nat.reduceLT, Nat.reduceLeDiff, Nat.reduceAdd, Nat.reduceSub, Nat.reduceMul, Nat.reduceDiv, Nat.reduceMod, Nat.reducePow, Nat.reduceBEq, Nat.reduceGT, reduceIte, hp8, rep8, T1, T3, T5, T30, T38, K0_0, K0_1, K0_51, K0_52, K0_53] <;> rfl) | ((repeat (first | (simp (maxDischargeDepth := 9) only [RA, Nat.reduceEqDiff, Nat.reduceLT, Nat.reduceLeDiff, Nat.reduceAdd, Nat.reduceSub, Nat.reduceMul, Nat.reduceDiv, Nat.reduceMod, Nat.reducePow, Nat.reduceBEq, Nat.reduceGT, reduceIte, hp8, rep8, T1, T3, T5, T30, T38, K0_0, K0_1, K0_51, K0_52, K0_53]; done) | simp (maxDischargeDepth := 9) only [RA, Nat.reduceEqDiff, Nat.reduceLT, Nat.reduceLeDiff, Nat.reduceAdd, Nat.reduceSub, Nat.reduceMul, Nat.reduceDiv, Nat.reduceMod, Nat.reducePow, Nat.reduceBEq, Nat.reduceGT, reduceIte, hp8, rep8, T1, T3, T5, T30, T38, K0_0, K0_1, K0_51, K0_52, K0_53] | simp (disch := first | assumption | omega) only [RV, hp8, rep8, T1, T3, T5, T30, T38, K0_0, K0_1, K0_51, K0_52, K0_53])) <;> rfl)))
      | (apply R_cond
         · (simp only [RE, Nat.reduceEqDiff, Nat.reduceLT, Nat.reduceLeDiff, Nat.reduceBEq, reduceIte, hp8, rep8, T1, T3, T5, T30, T38, K0_0, K0_1, K0_51, K0_52, K0_53] <;> rfl))
      | (apply R_grd
         · (simp only [yieldedA, RY, Nat.reduceEqDiff, reduceIte, hp8, rep8, T1, T3, T5, T30, T38, K0_0, K0_1, K0_51, K0_52, K0_53] <;> rfl)))
    obtain ⟨G, hG⟩ : ∃ H, H = (newRowH h6 .rw 1 (b8 (List.replicate 32 0#8))).put h6.nx (some (AObj.row .rw 1 (b8 I1))) := ⟨_, rfl⟩
    rw [← hG]
    have oM : G.obj h6.nx = some (.row .rw 1 (b8 I1)) := by rw [hG]; simp [RH]
    have nM : G.nx = h6.nx + 1 := by rw [hG]; simp [RH]
    have FM : Fr h6.nx h6 G := by rw [hG]; (repeat (first | assumption | exact Fr.refl _ _ | refine Fr.new ?_ ?_ _ _ _ | refine Fr.put ?_ ?_ _ | omega | (simp only [RH]; omega)))
    clear hG
    have bM : By G (.slice (some ⟨h6.nx, 0, none⟩) 32 32) I1 := by_row (k := .rw) (by omega) oM (Nat.le_refl _) hsl
    refine R_fn ?_ (sum52 4 G (.slice none 0 0) [] .nil (by simp)) ?_
    · rfl
    intro v7 h7 ⟨hv7, F7⟩
    subst hv7
    have hs0 := sumS_len []
    have hp0 := fun (H : Heap) (p : Nat) => puts8 (h := H) (b := p) (es := 1) hs0 (List.length_replicate (n := 32) (a := 0#8))
    have hz := sumE_0
    generalize sumS [] = Z0 at hs0 hp0 hz ⊢
    have n7 := F7.1
    repeat (first
      | refine R_seq ?_ | refine R_region ?_ | refine R_nil ?_ | refine Q_seq ?_ | refine Q_norm ?_ | refine Q_seqr ?_ | refine Q_seqx ?_ | refine Q_bl ?_ | refine Q_blr ?_ | refine Q_blx ?_ | refine Q_blo rfl ?_ | refine R_block ?_ | refine R_skip ?_ | refine R_exit ?_ | refine R_ret ?_ | refine I_true ?_ | refine I_false ?_ | refine N_exit ?_ | refine N_ret ?_
      | ((first | apply R_op | apply R_op0)
         · (first | (simp (maxDischargeDepth := 9) only [RA, Nat.reduceEqDiff, Nat.reduceLT, Nat.reduceLeDiff, Nat.reduceAdd, Nat.reduceSub, Nat.reduceMul, Nat.reduceDiv, Nat.reduceMod, Nat.reducePow, Nat.reduceBEq, Nat.reduceGT, reduceIte, hp0, rep8, T1, T3, T5, T30, T38, K0_0, K0_1, K0_51, K0_52, K0_53] <;> rfl) | ((repeat (first | (simp (maxDischargeDepth := 9) only [RA, Nat.reduceEqDiff, Nat.reduceLT, Nat.reduceLeDiff, Nat.reduceAdd, Nat.reduceSub, Nat.reduceMul, Nat.reduceDiv, Nat.reduceMod, Nat.reducePow, Nat.reduceBEq, Nat.reduceGT, reduceIte, hp0, rep8, T1, T3, T5, T30, T38, K0_0, K0_1, K0_51, K0_52, K0_53]; done) | simp (maxDischargeDepth := 9) only [RA, Nat.reduceEqDiff, Nat.reduceLT, Nat.reduceLeDiff, Nat.reduceAdd, Nat.reduceSub, Nat.reduceMul, Nat.reduceDiv, Nat.reduceMod, Nat.reducePow, Nat.reduceBEq, Nat.reduceGT, reduceIte, hp0, rep8, T1, T3, T5, T30, T38, K0_0, K0_1, K0_51, K0_52, K0_53] | simp (disch := first | assumption | omega) only [RV, hp0, rep8, T1, T3, T5, T30, T38, K0_0, K0_1, K0_51, K0_52, K0_53])) <;> rfl)))
      | (apply R_cond
         · (simp only [RE, Nat.reduceEqDiff, Nat.reduceLT, Nat.reduceLeDiff, Nat.reduceBEq, reduceIte, hp0, rep8, T1, T3, T5, T30, T38, K0_0, K0_1, K0_51, K0_52, K0_53] <;> rfl))
      | (apply R_grd
         · (simp only [yieldedA, RY, Nat.reduceEqDiff, reduceIte, hp0, rep8, T1, T3, T5, T30, T38, K0_0, K0_1, K0_51, K0_52, K0_53] <;> rfl)))
    obtain ⟨K, hK⟩ : ∃ H, H = (newRowH h7 .rw 1 (b8 (List.replicate 32 0#8))).put h7.nx (some (AObj.row .rw 1 (b8 Z0))) := ⟨_, rfl⟩
    rw [← hK]
    have oZ : K.obj h7.nx = some (.row .rw 1 (b8 Z0)) := by rw [hK]; simp [RH]
    have nK : K.nx = h7.nx + 1 := by rw [hK]; simp [RH]
    have FK : Fr h7.nx h7 K := by rw [hK]; (repeat (first | assumption | exact Fr.refl _ _ | refine Fr.new ?_ ?_ _ _ _ | refine Fr.put ?_ ?_ _ | omega | (simp only [RH]; omega)))
    clear hK
    have G56 : Fr h5.nx h5 K := F6.trans ((FM.le (by omega)).trans ((F7.le (by omega)).trans (FK.le (by omega))))
    have bMK : By K (.slice (some ⟨h6.nx, 0, none⟩) 32 32) I1 := (bM.fr0 F7).fr0 FK
    have own6K : OwB h.nx K (e1 6) (turnR k 92#8 64) := own65.keep (by omega) (fun r hr => G56.2 r (by have := (r6 r hr).2; omega))
    refine D_draw [2, 4] (fun _ => True) (by kernel_rfl) ?_
    repeat (first
      | refine D_nil ?_ | refine I_true ?_ | refine I_false ?_
      | ((first | apply D_op | apply D_op0)
         · (first | (simp (maxDischargeDepth := 9) only [RA, Nat.reduceEqDiff, Nat.reduceLT, Nat.reduceLeDiff, Nat.reduceAdd, Nat.reduceSub, Nat.reduceMul, Nat.reduceDiv, Nat.reduceMod, Nat.reducePow, Nat.reduceBEq, Nat.reduceGT, reduceIte, T1, T3, T5, T30, T38, K0_0, K0_1, K0_51, K0_52, K0_53] <;> rfl) | ((repeat (first | (simp (maxDischargeDepth := 9) only [RA, Nat.reduceEqDiff, Nat.reduceLT, Nat.reduceLeDiff, Nat.reduceAdd, Nat.reduceSub, Nat.reduceMul, Nat.reduceDiv, Nat.reduceMod, Nat.reducePow, Nat.reduceBEq, Nat.reduceGT, reduceIte, T1, T3, T5, T30, T38, K0_0, K0_1, K0_51, K0_52, K0_53]; done) | simp (maxDischargeDepth := 9) only [RA, Nat.reduceEqDiff, Nat.reduceLT, Nat.reduceLeDiff, Nat.reduceAdd, Nat.reduceSub, Nat.reduceMul, Nat.reduceDiv, Nat.reduceMod, Nat.reducePow, Nat.reduceBEq, Nat.reduceGT, reduceIte, T1, T3, T5, T30, T38, K0_0, K0_1, K0_51, K0_52, K0_53] | simp (disch := first | assumption | omega) only [RV, T1, T3, T5, T30, T38, K0_0, K0_1, K0_51, K0_52, K0_53])) <;> rfl))
         · (intro hF; first | exact chk_pure rfl | exact chk_alloc rfl | exact chk_read rfl | exact chk_iso iso52 | exact chk_call iso52 (fun _ _ _ => rfl) | exact chk_iso iso60 | exact chk_call iso60 (fun _ _ _ => rfl) | exact chk_iso iso68 | exact chk_call iso68 (fun _ _ _ => rfl) | (exfalso; revert hF; decide) | ((first | refine chk_load ?_ | refine chk_slice ?_ | refine chk_convert ?_ | refine chk_store ?_ | refine chk_call (by kernel_rfl) ?_); simp only [eq_self, ev_tmp, upd_apply, rowsOfV, List.mem_cons, List.not_mem_nil, or_false, forall_eq, forall_eq_or_imp, obj_put, obj_new, nx_new, nx_put, Nat.reduceEqDiff, if_true, if_false, reduceIte, implies_true, and_self, and_true, true_or, or_true, T1, T3, T5, T30, T38, K0_0, K0_1, K0_51, K0_52, K0_53])))
      | (apply D_grd
         · (simp only [yieldedA, RY, Nat.reduceEqDiff, reduceIte, T1, T3, T5, T30, T38, K0_0, K0_1, K0_51, K0_52, K0_53] <;> rfl)))
    refine D_fn ?_ (hmac68 2 K v2 v3 k b ((k2.fr0 F5).fr0 (G56.le (by omega))) ((b3.fr0 F5).fr0 (G56.le (by omega))) (by omega) (by omega)) iso68 (fun v4 h4 hp _ r _ hr => hp.2.2 r hr) ?_
    · rfl
    intro v8 h8 ⟨hv8, F8⟩
    subst hv8
    have n8 := F8.1
    have bM8 : By h8 (.slice (some ⟨h6.nx, 0, none⟩) 32 32) I1 := bMK.fr0 F8
    have own68 : OwB h.nx h8 (e1 6) (turnR k 92#8 64) := own6K.keep n8 (fun r hr => F8.2 r (own6K.rows r hr).2)
    have o8 : h8.obj h7.nx = some (.row .rw 1 (b8 Z0)) := by rw [F8.2 _ (by omega)]; exact oZ
    repeat (first
      | refine D_nil ?_ | refine I_true ?_ | refine I_false ?_
      | ((first | apply D_op | apply D_op0)
         · (first | (simp (maxDischargeDepth := 9) only [RA, Nat.reduceEqDiff, Nat.reduceLT, Nat.reduceLeDiff, Nat.reduceAdd, Nat.reduceSub, Nat.reduceMul, Nat.reduceDiv, Nat.reduceMod, Nat.reducePow, Nat.reduceBEq, Nat.reduceGT, reduceIte, T1, T3, T5, T30, T38, K0_0, K0_1, K0_51, K0_52, K0_53] <;> rfl) | ((repeat (first | (simp (maxDischargeDepth := 9) only [RA, Nat.reduceEqDiff, Nat.reduceLT, Nat.reduceLeDiff, Nat.reduceAdd, Nat.reduceSub, Nat.reduceMul, Nat.reduceDiv, Nat.reduceMod, Nat.reducePow, Nat.reduceBEq, Nat.reduceGT, reduceIte, T1, T3, T5, T30, T38, K0_0, K0_1, K0_51, K0_52, K0_53]; done) | simp (maxDischargeDepth := 9) only [RA, Nat.reduceEqDiff, Nat.reduceLT, Nat.reduceLeDiff, Nat.reduceAdd, Nat.reduceSub, Nat.reduceMul, Nat.reduceDiv, Nat.reduceMod, Nat.reducePow, Nat.reduceBEq, Nat.reduceGT, reduceIte, T1, T3, T5, T30, T38, K0_0, K0_1, K0_51, K0_52, K0_53] | simp (disch := first | assumption | omega) only [RV, T1, T3, T5, T30, T38, K0_0, K0_1, K0_51, K0_52, K0_53])) <;> rfl))
         · (intro hF; first | exact chk_pure rfl | exact chk_alloc rfl | exact chk_read rfl | exact chk_iso iso52 | exact chk_call iso52 (fun _ _ _ => rfl) | exact chk_iso iso60 | exact chk_call iso60 (fun _ _ _ => rfl) | exact chk_iso iso68 | exact chk_call iso68 (fun _ _ _ => rfl) | (exfalso; revert hF; decide) | ((first | refine chk_load ?_ | refine chk_slice ?_ | refine chk_convert ?_ | refine chk_store ?_ | refine chk_call (by kernel_rfl) ?_); simp only [eq_self, ev_tmp, upd_apply, rowsOfV, List.mem_cons, List.not_mem_nil, or_false, forall_eq, forall_eq_or_imp, obj_put, obj_new, nx_new, nx_put, Nat.reduceEqDiff, if_true, if_false, reduceIte, implies_true, and_self, and_true, true_or, or_true, T1, T3, T5, T30, T38, K0_0, K0_1, K0_51, K0_52, K0_53])))
      | (apply D_grd
         · (simp only [yieldedA, RY, Nat.reduceEqDiff, reduceIte, T1, T3, T5, T30, T38, K0_0, K0_1, K0_51, K0_52, K0_53] <;> rfl)))
    refine D_app E38 Try.underlying38 (v := e1 6) (w := .slice (some ⟨h6.nx, 0, none⟩) 32 32) (lo := h.nx) (xs := turnR k 92#8 64) (ys := I1) ?_ ?_ own68 bM8 (by omega) (by rw [turnR_length, hsl]; decide) (fun v' h' own wt hF => absurd hF (by decide)) ?_
    · first | rfl | (first | rw [ev_tmp] | rw [ev_const] | skip) <;> simp only [upd_apply, Nat.reduceEqDiff, if_true, if_false, reduceIte, lit_iv, lit_w8, K0_0, K0_1, K0_51, K0_52, K0_53]
    · first | rfl | (first | rw [ev_tmp] | rw [ev_const] | skip) <;> simp only [upd_apply, Nat.reduceEqDiff, if_true, if_false, reduceIte, lit_iv, lit_w8, K0_0, K0_1, K0_51, K0_52, K0_53]
    intro v9 h9 own9 wt9
    have n9 := wt9.nx
    have o9 : h9.obj h7.nx = some (.row .rw 1 (b8 Z0)) := by rw [wt9.rest _ (by omega) (fun hm => by have := (r6 _ hm).2; omega)]; exact o8
    repeat (first
      | refine D_nil ?_ | refine I_true ?_ | refine I_false ?_
      | ((first | apply D_op | apply D_op0)
         · (first | (simp (maxDischargeDepth := 9) only [RA, Nat.reduceEqDiff, Nat.reduceLT, Nat.reduceLeDiff, Nat.reduceAdd, Nat.reduceSub, Nat.reduceMul, Nat.reduceDiv, Nat.reduceMod, Nat.reducePow, Nat.reduceBEq, Nat.reduceGT, reduceIte, T1, T3, T5, T30, T38, K0_0, K0_1, K0_51, K0_52, K0_53] <;> rfl) | ((repeat (first | (simp (maxDischargeDepth := 9) only [RA, Nat.reduceEqDiff, Nat.reduceLT, Nat.reduceLeDiff, Nat.reduceAdd, Nat.reduceSub, Nat.reduceMul, Nat.reduceDiv, Nat.reduceMod, Nat.reducePow, Nat.reduceBEq, Nat.reduceGT, reduceIte, T1, T3, T5, T30, T38, K0_0, K0_1, K0_51, K0_52, K0_53]; done) | simp (maxDischargeDepth := 9) only [RA, Nat.reduceEqDiff, Nat.reduceLT, Nat.reduceLeDiff, Nat.reduceAdd, Nat.reduceSub, Nat.reduceMul, Nat.reduceDiv, Nat.reduceMod, Nat.reducePow, Nat.reduceBEq, Nat.reduceGT, reduceIte, T1, T3, T5, T30, T38, K0_0, K0_1, K0_51, K0_52, K0_53] | simp (disch := first | assumption | omega) only [RV, T1, T3, T5, T30, T38, K0_0, K0_1, K0_51, K0_52, K0_53])) <;> rfl))
         · (intro hF; first | exact chk_pure rfl | exact chk_alloc rfl | exact chk_read rfl | exact chk_iso iso52 | exact chk_call iso52 (fun _ _ _ => rfl) | exact chk_iso iso60 | exact chk_call iso60 (fun _ _ _ => rfl) | exact chk_iso iso68 | exact chk_call iso68 (fun _ _ _ => rfl) | (exfalso; revert hF; decide) | ((first | refine chk_load ?_ | refine chk_slice ?_ | refine chk_convert ?_ | refine chk_store ?_ | refine chk_call (by kernel_rfl) ?_); simp only [eq_self, ev_tmp, upd_apply, rowsOfV, List.mem_cons, List.not_mem_nil, or_false, forall_eq, forall_eq_or_imp, obj_put, obj_new, nx_new, nx_put, Nat.reduceEqDiff, if_true, if_false, reduceIte, implies_true, and_self, and_true, true_or, or_true, T1, T3, T5, T30, T38, K0_0, K0_1, K0_51, K0_52, K0_53])))
      | (apply D_grd
         · (simp only [yieldedA, RY, Nat.reduceEqDiff, reduceIte, T1, T3, T5, T30, T38, K0_0, K0_1, K0_51, K0_52, K0_53] <;> rfl)))
    refine D_fn ?_ (sum52 4 h9 v9 _ own9.sl (by rw [List.length_append, turnR_length, hsl]; decide)) iso52 (fun v4 h4 hp hF => absurd hF (by decide)) ?_
    · rfl
    intro v10 h10 ⟨hv10, F10⟩
    rw [hfin] at hv10
    subst hv10
    have o10 : h10.obj h7.nx = some (.row .rw 1 (b8 Z0)) := by rw [F10.2 _ (by omega)]; exact o9
    repeat (first
      | refine D_nil ?_ | refine I_true ?_ | refine I_false ?_
      | ((first | apply D_op | apply D_op0)
         · (first | (simp (maxDischargeDepth := 9) only [RA, Nat.reduceEqDiff, Nat.reduceLT, Nat.reduceLeDiff, Nat.reduceAdd, Nat.reduceSub, Nat.reduceMul, Nat.reduceDiv, Nat.reduceMod, Nat.reducePow, Nat.reduceBEq, Nat.reduceGT, reduceIte, beq30 (hmacS_length k b) (hmacS_length k b), o10, hs0, hz, T1, T3, T5, T30, T38, K0_0, K0_1, K0_51, K0_52, K0_53] <;> rfl) | ((repeat (first | (simp (maxDischargeDepth := 9) only [RA, Nat.reduceEqDiff, Nat.reduceLT, Nat.reduceLeDiff, Nat.reduceAdd, Nat.reduceSub, Nat.reduceMul, Nat.reduceDiv, Nat.reduceMod, Nat.reducePow, Nat.reduceBEq, Nat.reduceGT, reduceIte, beq30 (hmacS_length k b) (hmacS_length k b), o10, hs0, hz, T1, T3, T5, T30, T38, K0_0, K0_1, K0_51, K0_52, K0_53]; done) | simp (maxDischargeDepth := 9) only [RA, Nat.reduceEqDiff, Nat.reduceLT, Nat.reduceLeDiff, Nat.reduceAdd, Nat.reduceSub, Nat.reduceMul, Nat.reduceDiv, Nat.reduceMod, Nat.reducePow, Nat.reduceBEq, Nat.reduceGT, reduceIte, beq30 (hmacS_length k b) (hmacS_length k b), o10, hs0, hz, T1, T3, T5, T30, T38, K0_0, K0_1, K0_51, K0_52, K0_53] | simp (disch := first | assumption | omega) only [RV, beq30 (hmacS_length k b) (hmacS_length k b), o10, hs0, hz, T1, T3, T5, T30, T38, K0_0, K0_1, K0_51, K0_52, K0_53])) <;> rfl))
         · (intro hF; first | exact chk_pure rfl | exact chk_alloc rfl | exact chk_read rfl | exact chk_iso iso52 | exact chk_call iso52 (fun _ _ _ => rfl) | exact chk_iso iso60 | exact chk_call iso60 (fun _ _ _ => rfl) | exact chk_iso iso68 | exact chk_call iso68 (fun _ _ _ => rfl) | (exfalso; revert hF; decide) | ((first | refine chk_load ?_ | refine chk_slice ?_ | refine chk_convert ?_ | refine chk_store ?_ | refine chk_call (by kernel_rfl) ?_); simp only [eq_self, ev_tmp, upd_apply, rowsOfV, List.mem_cons, List.not_mem_nil, or_false, forall_eq, forall_eq_or_imp, obj_put, obj_new, nx_new, nx_put, Nat.reduceEqDiff, if_true, if_false, reduceIte, implies_true, and_self, and_true, true_or, or_true, beq30 (hmacS_length k b) (hmacS_length k b), o10, hs0, hz, T1, T3, T5, T30, T38, K0_0, K0_1, K0_51, K0_52, K0_53])))
      | (apply D_grd
         · (simp only [yieldedA, RY, Nat.reduceEqDiff, reduceIte, beq30 (hmacS_length k b) (hmacS_length k b), o10, hs0, hz, T1, T3, T5, T30, T38, K0_0, K0_1, K0_51, K0_52, K0_53] <;> rfl)))
    repeat (first
      | refine R_seq ?_ | refine R_region ?_ | refine R_nil ?_ | refine Q_seq ?_ | refine Q_norm ?_ | refine Q_seqr ?_ | refine Q_seqx ?_ | refine Q_bl ?_ | refine Q_blr ?_ | refine Q_blx ?_ | refine Q_blo rfl ?_ | refine R_block ?_ | refine R_skip ?_ | refine R_exit ?_ | refine R_ret ?_ | refine I_true ?_ | refine I_false ?_ | refine N_exit ?_ | refine N_ret ?_
      | ((first | apply R_op | apply R_op0)
         · (first | (simp (maxDischargeDepth := 9) only [RA, Nat.reduceEqDiff, Nat.reduceLT, Nat.reduceLeDiff, Nat.reduceAdd, Nat.reduceSub, Nat.reduceMul, Nat.reduceDiv, Nat.reduceMod, Nat.reducePow, Nat.reduceBEq, Nat.reduceGT, reduceIte, T1, T3, T5, T30, T38, K0_0, K0_1, K0_51, K0_52, K0_53] <;> rfl) | ((repeat (first | (simp (maxDischargeDepth := 9) only [RA, Nat.reduceEqDiff, Nat.reduceLT, Nat.reduceLeDiff, Nat.reduceAdd, Nat.reduceSub, Nat.reduceMul, Nat.reduceDiv, Nat.reduceMod, Nat.reducePow, Nat.reduceBEq, Nat.reduceGT, reduceIte, T1, T3, T5, T30, T38, K0_0, K0_1, K0_51, K0_52, K0_53]; done) | simp (maxDischargeDepth := 9) only [RA, Nat.reduceEqDiff, Nat.reduceLT, Nat.reduceLeDiff, Nat.reduceAdd, Nat.reduceSub, Nat.reduceMul, Nat.reduceDiv, Nat.reduceMod, Nat.reducePow, Nat.reduceBEq, Nat.reduceGT, reduceIte, T1, T3, T5, T30, T38, K0_0, K0_1, K0_51, K0_52, K0_53] | simp (disch := first | assumption | omega) only [RV, T1, T3, T5, T30, T38, K0_0, K0_1, K0_51, K0_52, K0_53])) <;> rfl)))
      | (apply R_cond
         · (simp only [RE, Nat.reduceEqDiff, Nat.reduceLT, Nat.reduceLeDiff, Nat.reduceBEq, reduceIte, T1, T3, T5, T30, T38, K0_0, K0_1, K0_51, K0_52, K0_53] <;> rfl))
      | (apply R_grd
         · (simp only [yieldedA, RY, Nat.reduceEqDiff, reduceIte, T1, T3, T5, T30, T38, K0_0, K0_1, K0_51, K0_52, K0_53] <;> rfl)))
    (first | refine ⟨.inr rfl, _, rfl, ?_⟩ | refine ⟨.inl rfl, _, rfl, ?_⟩) <;> simp only [packR, upd_apply, Nat.reduceEqDiff, if_true, if_false, reduceIte]
theorem wl24 (h : Heap) (avs : List Value) (ty : TyVs Try.prog 8 h [38, 38] avs) : ∃ v h', evF (cfg0 Try.prog) 12 24 avs h = some (.ok v, h') ∧ v = .bool true := by
  match avs, ty with
  | [v, w], ⟨s0, s1, _⟩ =>
    obtain ⟨xs, hb, _⟩ := tyv38 s0
    obtain ⟨ys, hc, _⟩ := tyv38 s1; exact law24 h v w xs ys hb hc
end Go.Proofs.Ytfehhihllenjiaa
