/- Tags: what the reference draws from keys. -/
import Derived.Test.YtfehhihllenjiaaJf
set_option linter.all false
namespace Go.Proofs.Ytfehhihllenjiaa
open Go.Proofs
attribute [local irreducible] evOps iter evD evF evC evLoad evStore evAlloc evIndexAddr evIndex evLenB evBox evBin evUn evConvert evExtract evSlice evAppend evCopy evNil evBuild evMakeSlice evBuildSlice evBuiltin Program.underlying
attribute [local irreducible] sumS turnB keyS padK hmacS turnR catN expT expO
theorem inl74 : inlOf Try.prog 74 = true := by kernel_rfl
theorem iso74 : isoOf Try.prog 74 = false := by kernel_rfl
set_option maxRecDepth 20000 in
set_option maxHeartbeats 8000000 in
theorem exp74bad (q : Nat) (h : Heap) (key : List (BitVec 8)) (w z : Value) (hk : key.length = 32) (hz : badLen z) :
    ∃ v' h', fcall Try.prog (q + 1) (.func (.func 74) #[] #[]) [.agg ⟨b8 key⟩, w, z] h = some (.ok v', h') ∧ v' = .tuple #[.slice none 0 0, iv 2] ∧ Fr h.nx h h' := by
  rw [fcall_inl inl74 iso74, evF_eq Try.func74 rfl]
  apply evEnd_of_W
  simp only [Try.f74]
  rcases hz with ⟨n, hn, rfl⟩ | ⟨n, hn, rfl⟩
  · repeat (first
    | refine R_seq ?_ | refine R_region ?_ | refine R_nil ?_ | refine Q_seq ?_ | refine Q_norm ?_ | refine Q_seqr ?_ | refine Q_seqx ?_ | refine Q_bl ?_ | refine Q_blr ?_ | refine Q_blx ?_ | refine Q_blo rfl ?_ | refine R_block ?_ | refine R_skip ?_ | refine R_exit ?_ | refine R_ret ?_ | refine I_true ?_ | refine I_false ?_ | refine N_exit ?_ | refine N_ret ?_
    | (refine R_draw (by kernel_rfl) ?_)
    | ((first | apply R_op | apply R_op0)
       · (first | (simp (maxDischargeDepth := 9) only [RA, Nat.reduceEqDiff, Nat.reduceLT, Nat.reduceLeDiff, Nat.reduceAdd, Nat.reduceSub, Nat.reduceMul, Nat.reduceDiv, Nat.reduceMod, Nat.reducePow, Nat.reduceBEq, Nat.reduceGT, reduceIte, hk, nv_lss n 0 hn, T1, T3, T5, T30, T38, cvi_8 Try.underlying3 Try.underlying5] <;> rfl) | ((repeat (first | (simp (maxDischargeDepth := 9) only [RA, Nat.reduceEqDiff, Nat.reduceLT, Nat.reduceLeDiff, Nat.reduceAdd, Nat.reduceSub, Nat.reduceMul, Nat.reduceDiv, Nat.reduceMod, Nat.reducePow, Nat.reduceBEq, Nat.reduceGT, reduceIte, hk, nv_lss n 0 hn, T1, T3, T5, T30, T38, cvi_8 Try.underlying3 Try.underlying5]; done) | simp (maxDischargeDepth := 9) only [RA, Nat.reduceEqDiff, Nat.reduceLT, Nat.reduceLeDiff, Nat.reduceAdd, Nat.reduceSub, Nat.reduceMul, Nat.reduceDiv, Nat.reduceMod, Nat.reducePow, Nat.reduceBEq, Nat.reduceGT, reduceIte, hk, nv_lss n 0 hn, T1, T3, T5, T30, T38, cvi_8 Try.underlying3 Try.underlying5] | simp (disch := first | assumption | omega) only [RV, hk, nv_lss n 0 hn, T1, T3, T5, T30, T38, cvi_8 Try.underlying3 Try.underlying5])) <;> rfl)))
    | (apply R_cond
       · (simp only [RE, Nat.reduceEqDiff, Nat.reduceLT, Nat.reduceLeDiff, Nat.reduceBEq, reduceIte, hk, nv_lss n 0 hn, T1, T3, T5, T30, T38, cvi_8 Try.underlying3 Try.underlying5] <;> rfl))
    | (apply R_grd
       · (simp only [yieldedA, RY, Nat.reduceEqDiff, reduceIte, hk, nv_lss n 0 hn, T1, T3, T5, T30, T38, cvi_8 Try.underlying3 Try.underlying5] <;> rfl)))
    refine ⟨.inr rfl, _, rfl, ?_, by (repeat (first | assumption | exact Fr.refl _ _ | refine Fr.new ?_ ?_ _ _ _ | refine Fr.put ?_ ?_ _ | omega | (simp only [RH]; omega)))⟩
    (try simp only [List.map_cons, List.map_nil, RH, Nat.reduceAdd, Nat.reduceEqDiff, reduceIte, ev_tmp, ev_const, lit_iv, lit_w8, lit_w32, lit_w64, envOf0, envOf1, envOf2, envOf3, envOf4, envOf5, packR, T1, T3, T5, T30, T38, cvi_8 Try.underlying3 Try.underlying5])
  · have hn0 : ¬ n < 0 := by omega
    repeat (first
      | refine R_seq ?_ | refine R_region ?_ | refine R_nil ?_ | refine Q_seq ?_ | refine Q_norm ?_ | refine Q_seqr ?_ | refine Q_seqx ?_ | refine Q_bl ?_ | refine Q_blr ?_ | refine Q_blx ?_ | refine Q_blo rfl ?_ | refine R_block ?_ | refine R_skip ?_ | refine R_exit ?_ | refine R_ret ?_ | refine I_true ?_ | refine I_false ?_ | refine N_exit ?_ | refine N_ret ?_
      | (refine R_draw (by kernel_rfl) ?_)
      | ((first | apply R_op | apply R_op0)
         · (first | (simp (maxDischargeDepth := 9) only [RA, Nat.reduceEqDiff, Nat.reduceLT, Nat.reduceLeDiff, Nat.reduceAdd, Nat.reduceSub, Nat.reduceMul, Nat.reduceDiv, Nat.reduceMod, Nat.reducePow, Nat.reduceBEq, Nat.reduceGT, reduceIte, hk, hn, hn0, T1, T3, T5, T30, T38, cvi_8 Try.underlying3 Try.underlying5] <;> rfl) | ((repeat (first | (simp (maxDischargeDepth := 9) only [RA, Nat.reduceEqDiff, Nat.reduceLT, Nat.reduceLeDiff, Nat.reduceAdd, Nat.reduceSub, Nat.reduceMul, Nat.reduceDiv, Nat.reduceMod, Nat.reducePow, Nat.reduceBEq, Nat.reduceGT, reduceIte, hk, hn, hn0, T1, T3, T5, T30, T38, cvi_8 Try.underlying3 Try.underlying5]; done) | simp (maxDischargeDepth := 9) only [RA, Nat.reduceEqDiff, Nat.reduceLT, Nat.reduceLeDiff, Nat.reduceAdd, Nat.reduceSub, Nat.reduceMul, Nat.reduceDiv, Nat.reduceMod, Nat.reducePow, Nat.reduceBEq, Nat.reduceGT, reduceIte, hk, hn, hn0, T1, T3, T5, T30, T38, cvi_8 Try.underlying3 Try.underlying5] | simp (disch := first | assumption | omega) only [RV, hk, hn, hn0, T1, T3, T5, T30, T38, cvi_8 Try.underlying3 Try.underlying5])) <;> rfl)))
      | (apply R_cond
         · (simp only [RE, Nat.reduceEqDiff, Nat.reduceLT, Nat.reduceLeDiff, Nat.reduceBEq, reduceIte, hk, hn, hn0, T1, T3, T5, T30, T38, cvi_8 Try.underlying3 Try.underlying5] <;> rfl))
      | (apply R_grd
         · (simp only [yieldedA, RY, Nat.reduceEqDiff, reduceIte, hk, hn, hn0, T1, T3, T5, T30, T38, cvi_8 Try.underlying3 Try.underlying5] <;> rfl)))
    refine ⟨.inr rfl, _, rfl, ?_, by (repeat (first | assumption | exact Fr.refl _ _ | refine Fr.new ?_ ?_ _ _ _ | refine Fr.put ?_ ?_ _ | omega | (simp only [RH]; omega)))⟩
    (try simp only [List.map_cons, List.map_nil, RH, Nat.reduceAdd, Nat.reduceEqDiff, reduceIte, ev_tmp, ev_const, lit_iv, lit_w8, lit_w32, lit_w64, envOf0, envOf1, envOf2, envOf3, envOf4, envOf5, packR, T1, T3, T5, T30, T38, cvi_8 Try.underlying3 Try.underlying5])
set_option maxRecDepth 20000 in
set_option maxHeartbeats 8000000 in
theorem exp74 (q : Nat) (h : Heap) (key : List (BitVec 8)) (w : Value) (info : List (BitVec 8)) (n : Nat) (hk : key.length = 32) (hi : By h w info) (hil : info.length ≤ 1048576) (hn : n ≤ 8160) :
    ∃ v' h', fcall Try.prog (q + 8) (.func (.func 74) #[] #[]) [.agg ⟨b8 key⟩, w, iv n] h = some (.ok v', h') ∧ (∃ v, v' = .tuple #[v, iv 0] ∧ By h' v (expS key info n)) ∧ Fr h.nx h h' := by
  rw [fcall_inl inl74 iso74, evF_eq Try.func74 rfl]
  apply evEnd_of_W
  simp only [Try.f74]
  have hn0 : ¬ n < 0 := by omega
  have hn1 : ¬ 8160 < n := by omega
  repeat (first
    | refine R_seq ?_ | refine R_region ?_ | refine R_nil ?_ | refine Q_seq ?_ | refine Q_norm ?_ | refine Q_seqr ?_ | refine Q_seqx ?_ | refine Q_bl ?_ | refine Q_blr ?_ | refine Q_blx ?_ | refine Q_blo rfl ?_ | refine R_block ?_ | refine R_skip ?_ | refine R_exit ?_ | refine R_ret ?_ | refine I_true ?_ | refine I_false ?_ | refine N_exit ?_ | refine N_ret ?_
    | (refine R_draw (by kernel_rfl) ?_)
    | ((first | apply R_op | apply R_op0)
       · (first | (simp (maxDischargeDepth := 9) only [RA, Nat.reduceEqDiff, Nat.reduceLT, Nat.reduceLeDiff, Nat.reduceAdd, Nat.reduceSub, Nat.reduceMul, Nat.reduceDiv, Nat.reduceMod, Nat.reducePow, Nat.reduceBEq, Nat.reduceGT, reduceIte, hk, hn0, hn1, T1, T3, T5, T30, T38, cvi_8 Try.underlying3 Try.underlying5] <;> rfl) | ((repeat (first | (simp (maxDischargeDepth := 9) only [RA, Nat.reduceEqDiff, Nat.reduceLT, Nat.reduceLeDiff, Nat.reduceAdd, Nat.reduceSub, Nat.reduceMul, Nat.reduceDiv, Nat.reduceMod, Nat.reducePow, Nat.reduceBEq, Nat.reduceGT, reduceIte, hk, hn0, hn1, T1, T3, T5, T30, T38, cvi_8 Try.underlying3 Try.underlying5]; done) | simp (maxDischargeDepth := 9) only [RA, Nat.reduceEqDiff, Nat.reduceLT, Nat.reduceLeDiff, Nat.reduceAdd, Nat.reduceSub, Nat.reduceMul, Nat.reduceDiv, Nat.reduceMod, Nat.reducePow, Nat.reduceBEq, Nat.reduceGT, reduceIte, hk, hn0, hn1, T1, T3, T5, T30, T38, cvi_8 Try.underlying3 Try.underlying5] | simp (disch := first | assumption | omega) only [RV, hk, hn0, hn1, T1, T3, T5, T30, T38, cvi_8 Try.underlying3 Try.underlying5])) <;> rfl)))
    | (apply R_cond
       · (simp only [RE, Nat.reduceEqDiff, Nat.reduceLT, Nat.reduceLeDiff, Nat.reduceBEq, reduceIte, hk, hn0, hn1, T1, T3, T5, T30, T38, cvi_8 Try.underlying3 Try.underlying5] <;> rfl))
    | (apply R_grd
       · (simp only [yieldedA, RY, Nat.reduceEqDiff, reduceIte, hk, hn0, hn1, T1, T3, T5, T30, T38, cvi_8 Try.underlying3 Try.underlying5] <;> rfl)))
  refine W_loopK [1, 2, 3] [h.nx] (fun j e1 h1 => e1 10 = iv (j + 1) ∧ OwB (h.nx + 1) h1 (e1 8) (expO key info j) ∧ By h1 (e1 9) (expT key info j) ∧ Fr h.nx h h1) ((n + 31) / 32) (by omega) ?_ ?_ ?_
  · refine ⟨by (try simp only [List.map_cons, List.map_nil, RH, Nat.reduceAdd, Nat.reduceEqDiff, reduceIte, ev_tmp, ev_const, lit_iv, lit_w8, lit_w32, lit_w64, envOf0, envOf1, envOf2, envOf3, envOf4, envOf5, T1, T3, T5, T30, T38, cvi_8 Try.underlying3 Try.underlying5]), ?_, ?_, by (repeat (first | assumption | exact Fr.refl _ _ | refine Fr.new ?_ ?_ _ _ _ | refine Fr.put ?_ ?_ _ | omega | (simp only [RH]; omega)))⟩
    · (try simp only [List.map_cons, List.map_nil, RH, Nat.reduceAdd, Nat.reduceEqDiff, reduceIte, ev_tmp, ev_const, lit_iv, lit_w8, lit_w32, lit_w64, envOf0, envOf1, envOf2, envOf3, envOf4, envOf5, expO_zero, T1, T3, T5, T30, T38, cvi_8 Try.underlying3 Try.underlying5]); exact .nil
    · (try simp only [List.map_cons, List.map_nil, RH, Nat.reduceAdd, Nat.reduceEqDiff, reduceIte, ev_tmp, ev_const, lit_iv, lit_w8, lit_w32, lit_w64, envOf0, envOf1, envOf2, envOf3, envOf4, envOf5, expT_zero, T1, T3, T5, T30, T38, cvi_8 Try.underlying3 Try.underlying5]); exact .nil
  · intro j hj e1 h1 hK hO hN ⟨j10, own8, b9, F1⟩
    simp only [List.map_cons, List.map_nil, List.cons.injEq, and_true, RH, Nat.reduceAdd, Nat.reduceEqDiff, reduceIte, envOf0, envOf1, envOf2, envOf3, envOf4, envOf5] at hK
    obtain ⟨K0_1, K0_2, K0_3⟩ := hK
    simp only [List.map_cons, List.map_nil, List.cons.injEq, and_true, RH, Nat.reduceAdd, Nat.reduceEqDiff, reduceIte, envOf0, envOf1, envOf2, envOf3, envOf4, envOf5] at hO
    have O0_0 := hO
    try simp only [RH] at hN
    have hjn : 32 * j < n := by omega
    have hol := expO_length key info j
    have htl := expT_le key info j
    repeat (first
      | refine R_seq ?_ | refine R_region ?_ | refine R_nil ?_ | refine Q_seq ?_ | refine Q_norm ?_ | refine Q_seqr ?_ | refine Q_seqx ?_ | refine Q_bl ?_ | refine Q_blr ?_ | refine Q_blx ?_ | refine Q_blo rfl ?_ | refine R_block ?_ | refine R_skip ?_ | refine R_exit ?_ | refine R_ret ?_ | refine I_true ?_ | refine I_false ?_ | refine N_exit ?_ | refine N_ret ?_
      | ((first | apply R_op | apply R_op0)
         · (first | (simp (maxDischargeDepth := 9) only [RA, Nat.reduceEqDiff, Nat.reduceLT, Nat.reduceLeDiff, Nat.reduceAdd, Nat.reduceSub, Nat.reduceMul, Nat.reduceDiv, Nat.reduceMod, Nat.reducePow, Nat.reduceBEq, Nat.reduceGT, reduceIte, j10, S38len own8.sl, hol, hjn, T1, T3, T5, T30, T38, cvi_8 Try.underlying3 Try.underlying5, K0_1, K0_2, K0_3, O0_0] <;> rfl) | ((repeat (first | (simp (maxDischargeDepth := 9) only [RA, Nat.reduceEqDiff, Nat.reduceLT, Nat.reduceLeDiff, Nat.reduceAdd, Nat.reduceSub, Nat.reduceMul, Nat.reduceDiv, Nat.reduceMod, Nat.reducePow, Nat.reduceBEq, Nat.reduceGT, reduceIte, j10, S38len own8.sl, hol, hjn, T1, T3, T5, T30, T38, cvi_8 Try.underlying3 Try.underlying5, K0_1, K0_2, K0_3, O0_0]; done) | simp (maxDischargeDepth := 9) only [RA, Nat.reduceEqDiff, Nat.reduceLT, Nat.reduceLeDiff, Nat.reduceAdd, Nat.reduceSub, Nat.reduceMul, Nat.reduceDiv, Nat.reduceMod, Nat.reducePow, Nat.reduceBEq, Nat.reduceGT, reduceIte, j10, S38len own8.sl, hol, hjn, T1, T3, T5, T30, T38, cvi_8 Try.underlying3 Try.underlying5, K0_1, K0_2, K0_3, O0_0] | simp (disch := first | assumption | omega) only [RV, j10, S38len own8.sl, hol, hjn, T1, T3, T5, T30, T38, cvi_8 Try.underlying3 Try.underlying5, K0_1, K0_2, K0_3, O0_0])) <;> rfl)))
      | (apply R_cond
         · (simp only [RE, Nat.reduceEqDiff, Nat.reduceLT, Nat.reduceLeDiff, Nat.reduceBEq, reduceIte, j10, S38len own8.sl, hol, hjn, T1, T3, T5, T30, T38, cvi_8 Try.underlying3 Try.underlying5, K0_1, K0_2, K0_3, O0_0] <;> rfl))
      | (apply R_grd
         · (simp only [yieldedA, RY, Nat.reduceEqDiff, reduceIte, j10, S38len own8.sl, hol, hjn, T1, T3, T5, T30, T38, cvi_8 Try.underlying3 Try.underlying5, K0_1, K0_2, K0_3, O0_0] <;> rfl)))
    refine R_app E38 Try.underlying38 (v := .slice none 0 0) (w := e1 9) (lo := h1.nx) (xs := []) (ys := expT key info j) ?_ ?_ .nil b9 (by omega) (by simp; omega) ?_
    · first | rfl | (first | rw [ev_tmp] | rw [ev_const] | skip) <;> simp only [upd_apply, Nat.reduceEqDiff, if_true, if_false, reduceIte, lit_iv, lit_w8, K0_1, K0_2, K0_3, O0_0]
    · first | rfl | (first | rw [ev_tmp] | rw [ev_const] | skip) <;> simp only [upd_apply, Nat.reduceEqDiff, if_true, if_false, reduceIte, lit_iv, lit_w8, K0_1, K0_2, K0_3, O0_0]
    intro v2 h2 own2 wt2
    rw [List.nil_append] at own2
    have n2 := wt2.nx
    have G2 : Fr h1.nx h1 h2 := wt2.fr (Nat.le_refl _) fun r hr => absurd hr (by simp [rowsOfV])
    repeat (first
      | refine R_seq ?_ | refine R_region ?_ | refine R_nil ?_ | refine Q_seq ?_ | refine Q_norm ?_ | refine Q_seqr ?_ | refine Q_seqx ?_ | refine Q_bl ?_ | refine Q_blr ?_ | refine Q_blx ?_ | refine Q_blo rfl ?_ | refine R_block ?_ | refine R_skip ?_ | refine R_exit ?_ | refine R_ret ?_ | refine I_true ?_ | refine I_false ?_ | refine N_exit ?_ | refine N_ret ?_
      | ((first | apply R_op | apply R_op0)
         · (first | (simp (maxDischargeDepth := 9) only [RA, Nat.reduceEqDiff, Nat.reduceLT, Nat.reduceLeDiff, Nat.reduceAdd, Nat.reduceSub, Nat.reduceMul, Nat.reduceDiv, Nat.reduceMod, Nat.reducePow, Nat.reduceBEq, Nat.reduceGT, reduceIte, T1, T3, T5, T30, T38, cvi_8 Try.underlying3 Try.underlying5, K0_1, K0_2, K0_3, O0_0] <;> rfl) | ((repeat (first | (simp (maxDischargeDepth := 9) only [RA, Nat.reduceEqDiff, Nat.reduceLT, Nat.reduceLeDiff, Nat.reduceAdd, Nat.reduceSub, Nat.reduceMul, Nat.reduceDiv, Nat.reduceMod, Nat.reducePow, Nat.reduceBEq, Nat.reduceGT, reduceIte, T1, T3, T5, T30, T38, cvi_8 Try.underlying3 Try.underlying5, K0_1, K0_2, K0_3, O0_0]; done) | simp (maxDischargeDepth := 9) only [RA, Nat.reduceEqDiff, Nat.reduceLT, Nat.reduceLeDiff, Nat.reduceAdd, Nat.reduceSub, Nat.reduceMul, Nat.reduceDiv, Nat.reduceMod, Nat.reducePow, Nat.reduceBEq, Nat.reduceGT, reduceIte, T1, T3, T5, T30, T38, cvi_8 Try.underlying3 Try.underlying5, K0_1, K0_2, K0_3, O0_0] | simp (disch := first | assumption | omega) only [RV, T1, T3, T5, T30, T38, cvi_8 Try.underlying3 Try.underlying5, K0_1, K0_2, K0_3, O0_0])) <;> rfl)))
      | (apply R_cond
         · (simp only [RE, Nat.reduceEqDiff, Nat.reduceLT, Nat.reduceLeDiff, Nat.reduceBEq, reduceIte, T1, T3, T5, T30, T38, cvi_8 Try.underlying3 Try.underlying5, K0_1, K0_2, K0_3, O0_0] <;> rfl))
      | (apply R_grd
         · (simp only [yieldedA, RY, Nat.reduceEqDiff, reduceIte, T1, T3, T5, T30, T38, cvi_8 Try.underlying3 Try.underlying5, K0_1, K0_2, K0_3, O0_0] <;> rfl)))
    refine R_app E38 Try.underlying38 (v := v2) (w := w) (lo := h1.nx) (xs := expT key info j) (ys := info) ?_ ?_ own2 (hi.fr0 (F1.trans (G2.le F1.1))) n2 (by omega) ?_
    · first | rfl | (first | rw [ev_tmp] | rw [ev_const] | skip) <;> simp only [upd_apply, Nat.reduceEqDiff, if_true, if_false, reduceIte, lit_iv, lit_w8, K0_1, K0_2, K0_3, O0_0]
    · first | rfl | (first | rw [ev_tmp] | rw [ev_const] | skip) <;> simp only [upd_apply, Nat.reduceEqDiff, if_true, if_false, reduceIte, lit_iv, lit_w8, K0_1, K0_2, K0_3, O0_0]
    intro v3 h3 own3 wt3
    have n3 := wt3.nx
    have G3 : Fr h1.nx h1 h3 := G2.trans (wt3.owFr n2 own2)
    repeat (first
      | refine R_seq ?_ | refine R_region ?_ | refine R_nil ?_ | refine Q_seq ?_ | refine Q_norm ?_ | refine Q_seqr ?_ | refine Q_seqx ?_ | refine Q_bl ?_ | refine Q_blr ?_ | refine Q_blx ?_ | refine Q_blo rfl ?_ | refine R_block ?_ | refine R_skip ?_ | refine R_exit ?_ | refine R_ret ?_ | refine I_true ?_ | refine I_false ?_ | refine N_exit ?_ | refine N_ret ?_
      | ((first | apply R_op | apply R_op0)
         · (first | (simp (maxDischargeDepth := 9) only [RA, Nat.reduceEqDiff, Nat.reduceLT, Nat.reduceLeDiff, Nat.reduceAdd, Nat.reduceSub, Nat.reduceMul, Nat.reduceDiv, Nat.reduceMod, Nat.reducePow, Nat.reduceBEq, Nat.reduceGT, reduceIte, j10, T1, T3, T5, T30, T38, cvi_8 Try.underlying3 Try.underlying5, K0_1, K0_2, K0_3, O0_0] <;> rfl) | ((repeat (first | (simp (maxDischargeDepth := 9) only [RA, Nat.reduceEqDiff, Nat.reduceLT, Nat.reduceLeDiff, Nat.reduceAdd, Nat.reduceSub, Nat.reduceMul, Nat.reduceDiv, Nat.reduceMod, Nat.reducePow, Nat.reduceBEq, Nat.reduceGT, reduceIte, j10, T1, T3, T5, T30, T38, cvi_8 Try.underlying3 Try.underlying5, K0_1, K0_2, K0_3, O0_0]; done) | simp (maxDischargeDepth := 9) only [RA, Nat.reduceEqDiff, Nat.reduceLT, Nat.reduceLeDiff, Nat.reduceAdd, Nat.reduceSub, Nat.reduceMul, Nat.reduceDiv, Nat.reduceMod, Nat.reducePow, Nat.reduceBEq, Nat.reduceGT, reduceIte, j10, T1, T3, T5, T30, T38, cvi_8 Try.underlying3 Try.underlying5, K0_1, K0_2, K0_3, O0_0] | simp (disch := first | assumption | omega) only [RV, j10, T1, T3, T5, T30, T38, cvi_8 Try.underlying3 Try.underlying5, K0_1, K0_2, K0_3, O0_0])) <;> rfl)))
      | (apply R_cond
         · (simp only [RE, Nat.reduceEqDiff, Nat.reduceLT, Nat.reduceLeDiff, Nat.reduceBEq, reduceIte, j10, T1, T3, T5, T30, T38, cvi_8 Try.underlying3 Try.underlying5, K0_1, K0_2, K0_3, O0_0] <;> rfl))
      | (apply R_grd
         · (simp only [yieldedA, RY, Nat.reduceEqDiff, reduceIte, j10, T1, T3, T5, T30, T38, cvi_8 Try.underlying3 Try.underlying5, K0_1, K0_2, K0_3, O0_0] <;> rfl)))
    refine R_app E38 Try.underlying38 (v := v3) (w := .slice (some ⟨h3.nx, 0, none⟩) 1 1) (lo := h1.nx) (xs := expT key info j ++ info) (ys := [BitVec.ofNat 8 (j + 1)]) ?_ ?_ own3.new one_by (by simp only [RH]; omega) (by simp; omega) ?_
    · first | rfl | (first | rw [ev_tmp] | rw [ev_const] | skip) <;> simp only [upd_apply, Nat.reduceEqDiff, if_true, if_false, reduceIte, lit_iv, lit_w8, K0_1, K0_2, K0_3, O0_0]
    · first | rfl | (first | rw [ev_tmp] | rw [ev_const] | skip) <;> simp only [upd_apply, Nat.reduceEqDiff, if_true, if_false, reduceIte, lit_iv, lit_w8, K0_1, K0_2, K0_3, O0_0]
    intro v4 h4 own4 wt4
    have n4 := wt4.nx
    simp only [RH] at n4
    have G4 : Fr h1.nx h1 h4 := G3.trans ((Fr.new (.refl _ _) (by omega) _ _ _).trans (wt4.owFr (by simp only [RH]; omega) own3.new))
    have k4 : h4.obj h.nx = some (.row .rw 1 (b8 key)) := by rw [G4.2 _ (by omega)]; exact O0_0
    have bk : By h4 (.slice (some ⟨h.nx, 0, none⟩) 32 32) key := by_row (k := .rw) (by omega) k4 (Nat.le_refl _) hk
    repeat (first
      | refine R_seq ?_ | refine R_region ?_ | refine R_nil ?_ | refine Q_seq ?_ | refine Q_norm ?_ | refine Q_seqr ?_ | refine Q_seqx ?_ | refine Q_bl ?_ | refine Q_blr ?_ | refine Q_blx ?_ | refine Q_blo rfl ?_ | refine R_block ?_ | refine R_skip ?_ | refine R_exit ?_ | refine R_ret ?_ | refine I_true ?_ | refine I_false ?_ | refine N_exit ?_ | refine N_ret ?_
      | ((first | apply R_op | apply R_op0)
         · (first | (simp (maxDischargeDepth := 9) only [RA, Nat.reduceEqDiff, Nat.reduceLT, Nat.reduceLeDiff, Nat.reduceAdd, Nat.reduceSub, Nat.reduceMul, Nat.reduceDiv, Nat.reduceMod, Nat.reducePow, Nat.reduceBEq, Nat.reduceGT, reduceIte, K0_3, T1, T3, T5, T30, T38, cvi_8 Try.underlying3 Try.underlying5, K0_1, K0_2, K0_3, O0_0] <;> rfl) | ((repeat (first | (simp (maxDischargeDepth := 9) only [RA, Nat.reduceEqDiff, Nat.reduceLT, Nat.reduceLeDiff, Nat.reduceAdd, Nat.reduceSub, Nat.reduceMul, Nat.reduceDiv, Nat.reduceMod, Nat.reducePow, Nat.reduceBEq, Nat.reduceGT, reduceIte, K0_3, T1, T3, T5, T30, T38, cvi_8 Try.underlying3 Try.underlying5, K0_1, K0_2, K0_3, O0_0]; done) | simp (maxDischargeDepth := 9) only [RA, Nat.reduceEqDiff, Nat.reduceLT, Nat.reduceLeDiff, Nat.reduceAdd, Nat.reduceSub, Nat.reduceMul, Nat.reduceDiv, Nat.reduceMod, Nat.reducePow, Nat.reduceBEq, Nat.reduceGT, reduceIte, K0_3, T1, T3, T5, T30, T38, cvi_8 Try.underlying3 Try.underlying5, K0_1, K0_2, K0_3, O0_0] | simp (disch := first | assumption | omega) only [RV, K0_3, T1, T3, T5, T30, T38, cvi_8 Try.underlying3 Try.underlying5, K0_1, K0_2, K0_3, O0_0])) <;> rfl)))
      | (apply R_cond
         · (simp only [RE, Nat.reduceEqDiff, Nat.reduceLT, Nat.reduceLeDiff, Nat.reduceBEq, reduceIte, K0_3, T1, T3, T5, T30, T38, cvi_8 Try.underlying3 Try.underlying5, K0_1, K0_2, K0_3, O0_0] <;> rfl))
      | (apply R_grd
         · (simp only [yieldedA, RY, Nat.reduceEqDiff, reduceIte, K0_3, T1, T3, T5, T30, T38, cvi_8 Try.underlying3 Try.underlying5, K0_1, K0_2, K0_3, O0_0] <;> rfl)))
    refine R_fn ?_ (hmac71 q h4 (.slice (some ⟨h.nx, 0, none⟩) 32 32) v4 key _ bk own4.sl (by omega) (by simp; omega)) ?_
    · rfl
    intro v5 h5 ⟨hv5, F5⟩
    subst hv5
    have n5 := F5.1
    rw [← expT_succ]
    have htl1 := expT_length key info j
    have hp8 := fun (H : Heap) (p : Nat) => puts8 (h := H) (b := p) (es := 1) htl1 (List.length_replicate (n := 32) (a := 0#8))
    have hs1 := expO_succ key info j
    have G5 : Fr h1.nx h1 h5 := G4.trans (F5.le (by omega))
    have own85 : OwB (h.nx + 1) h5 (e1 8) (expO key info j) := own8.keep (by omega) (fun r hr => G5.2 r (own8.rows r hr).2)
    have k5 : h5.obj h.nx = some (.row .rw 1 (b8 key)) := by rw [F5.2 _ (by omega)]; exact k4
    have r8 := own8.rows
    generalize expT key info (j + 1) = T at htl1 hp8 hs1
    repeat (first
      | refine R_seq ?_ | refine R_region ?_ | refine R_nil ?_ | refine Q_seq ?_ | refine Q_norm ?_ | refine Q_seqr ?_ | refine Q_seqx ?_ | refine Q_bl ?_ | refine Q_blr ?_ | refine Q_blx ?_ | refine Q_blo rfl ?_ | refine R_block ?_ | refine R_skip ?_ | refine R_exit ?_ | refine R_ret ?_ | refine I_true ?_ | refine I_false ?_ | refine N_exit ?_ | refine N_ret ?_
      | ((first | apply R_op | apply R_op0)
         · (first | (simp (maxDischargeDepth := 9) only [RA, Nat.reduceEqDiff, Nat.reduceLT, Nat.reduceLeDiff, Nat.reduceAdd, Nat.reduceSub, Nat.reduceMul, Nat.reduceDiv, Nat.reduceMod, Nat.reducePow, Nat.reduceBEq, Nat.reduceGT, reduceIte, hp8, rep8, T1, T3, T5, T30, T38, cvi_8 Try.underlying3 Try.underlying5, K0_1, K0_2, K0_3, O0_0] <;> rfl) | ((repeat (first | (simp (maxDischargeDepth := 9) only [RA, Nat.reduceEqDiff, Nat.reduceLT, Nat.reduceLeDiff, Nat.reduceAdd, Nat.reduceSub, Nat.reduceMul, Nat.reduceDiv, Nat.reduceMod, Nat.reducePow, Nat.reduceBEq, Nat.reduceGT, reduceIte, hp8, rep8, T1, T3, T5, T30, T38, cvi_8 Try.underlying3 Try.underlying5, K0_1, K0_2, K0_3, O0_0]; done) | simp (maxDischargeDepth := 9) only [RA, Nat.reduceEqDiff, Nat.reduceLT, Nat.reduceLeDiff, Nat.reduceAdd, Nat.reduceSub, Nat.reduceMul, Nat.reduceDiv, Nat.reduceMod, Nat.reducePow, Nat.reduceBEq, Nat.reduceGT, reduceIte, hp8, rep8, T1, T3, T5, T30, T38, cvi_8 Try.underlying3 Try.underlying5, K0_1, K0_2, K0_3, O0_0] | simp (disch := first | assumption | omega) only [RV, hp8, rep8, T1, T3, T5, T30, T38, cvi_8 Try.underlying3 Try.underlying5, K0_1, K0_2, K0_3, O0_0])) <;> rfl)))
      | (apply R_cond
         · (simp only [RE, Nat.reduceEqDiff, Nat.reduceLT, Nat.reduceLeDiff, Nat.reduceBEq, reduceIte, hp8, rep8, T1, T3, T5, T30, T38, cvi_8 Try.underlying3 Try.underlying5, K0_1, K0_2, K0_3, O0_0] <;> rfl))
      | (apply R_grd
         · (simp only [yieldedA, RY, Nat.reduceEqDiff, reduceIte, hp8, rep8, T1, T3, T5, T30, T38, cvi_8 Try.underlying3 Try.underlying5, K0_1, K0_2, K0_3, O0_0] <;> rfl)))
    obtain ⟨H, hH⟩ : ∃ H, H = (newRowH h5 .rw 1 (b8 (List.replicate 32 0#8))).put h5.nx (some (AObj.row .rw 1 (b8 T))) := ⟨_, rfl⟩
    rw [← hH]
    have oT : H.obj h5.nx = some (.row .rw 1 (b8 T)) := by rw [hH]; simp [RH]
    have nH5 : H.nx = h5.nx + 1 := by rw [hH]; simp [RH]
    have FHH : Fr h5.nx h5 H := by rw [hH]; (repeat (first | assumption | exact Fr.refl _ _ | refine Fr.new ?_ ?_ _ _ _ | refine Fr.put ?_ ?_ _ | omega | (simp only [RH]; omega)))
    clear hH
    have bT : By H (.slice (some ⟨h5.nx, 0, none⟩) 32 32) T := by_row (k := .rw) (by omega) oT (Nat.le_refl _) htl1
    have own8H : OwB (h.nx + 1) H (e1 8) (expO key info j) := own85.keep (by omega) (fun r hr => FHH.2 r (by have := (r8 r hr).2; omega))
    have r8H := own8H.rows
    refine R_app E38 Try.underlying38 (v := emptyS) (w := .slice (some ⟨h5.nx, 0, none⟩) 32 32) (lo := H.nx) (xs := []) (ys := T) ?_ ?_ .empty bT (by omega) (by rw [htl1]; decide) ?_
    · first | rfl | (first | rw [ev_tmp] | rw [ev_const] | skip) <;> simp only [upd_apply, Nat.reduceEqDiff, if_true, if_false, reduceIte, lit_iv, lit_w8, K0_1, K0_2, K0_3, O0_0]
    · first | rfl | (first | rw [ev_tmp] | rw [ev_const] | skip) <;> simp only [upd_apply, Nat.reduceEqDiff, if_true, if_false, reduceIte, lit_iv, lit_w8, K0_1, K0_2, K0_3, O0_0]
    intro v6 h6 own6 wt6
    rw [List.nil_append] at own6
    have n6 := wt6.nx
    have F6 : Fr H.nx H h6 := wt6.fr (Nat.le_refl _) (fun r hr => by simp [rowsOfV, emptyS] at hr)
    have own86 : OwB (h.nx + 1) h6 (e1 8) (expO key info j) := own8H.keep n6 (fun r hr => F6.2 r (r8H r hr).2)
    have r6 := own6.rows
    repeat (first
      | refine R_seq ?_ | refine R_region ?_ | refine R_nil ?_ | refine Q_seq ?_ | refine Q_norm ?_ | refine Q_seqr ?_ | refine Q_seqx ?_ | refine Q_bl ?_ | refine Q_blr ?_ | refine Q_blx ?_ | refine Q_blo rfl ?_ | refine R_block ?_ | refine R_skip ?_ | refine R_exit ?_ | refine R_ret ?_ | refine I_true ?_ | refine I_false ?_ | refine N_exit ?_ | refine N_ret ?_
      | ((first | apply R_op | apply R_op0)
         · (first | (simp (maxDischargeDepth := 9) only [RA, Nat.reduceEqDiff, Nat.reduceLT, Nat.reduceLeDiff, Nat.reduceAdd, Nat.reduceSub, Nat.reduceMul, Nat.reduceDiv, Nat.reduceMod, Nat.reducePow, Nat.reduceBEq, Nat.reduceGT, reduceIte, T1, T3, T5, T30, T38, cvi_8 Try.underlying3 Try.underlying5, K0_1, K0_2, K0_3, O0_0] <;> rfl) | ((repeat (first | (simp (maxDischargeDepth := 9) only [RA, Nat.reduceEqDiff, Nat.reduceLT, Nat.reduceLeDiff, Nat.reduceAdd, Nat.reduceSub, Nat.reduceMul, Nat.reduceDiv, Nat.reduceMod, Nat.reducePow, Nat.reduceBEq, Nat.reduceGT, reduceIte, T1, T3, T5, T30, T38, cvi_8 Try.underlying3 Try.underlying5, K0_1, K0_2, K0_3, O0_0]; done) | simp (maxDischargeDepth := 9) only [RA, Nat.reduceEqDiff, Nat.reduceLT, Nat.reduceLeDiff, Nat.reduceAdd, Nat.reduceSub, Nat.reduceMul, Nat.reduceDiv, Nat.reduceMod, Nat.reducePow, Nat.reduceBEq, Nat.reduceGT, reduceIte, T1, T3, T5, T30, T38, cvi_8 Try.underlying3 Try.underlying5, K0_1, K0_2, K0_3, O0_0] | simp (disch := first | assumption | omega) only [RV, T1, T3, T5, T30, T38, cvi_8 Try.underlying3 Try.underlying5, K0_1, K0_2, K0_3, O0_0])) <;> rfl)))
      | (apply R_cond
         · (simp only [RE, Nat.reduceEqDiff, Nat.reduceLT, Nat.reduceLeDiff, Nat.reduceBEq, reduceIte, T1, T3, T5, T30, T38, cvi_8 Try.underlying3 Try.underlying5, K0_1, K0_2, K0_3, O0_0] <;> rfl))
      | (apply R_grd
         · (simp only [yieldedA, RY, Nat.reduceEqDiff, reduceIte, T1, T3, T5, T30, T38, cvi_8 Try.underlying3 Try.underlying5, K0_1, K0_2, K0_3, O0_0] <;> rfl)))
    refine R_app E38 Try.underlying38 (v := e1 8) (w := v6) (lo := h.nx + 1) (xs := expO key info j) (ys := T) ?_ ?_ own86 own6.sl (by omega) (by rw [hol, htl1]; omega) ?_
    · first | rfl | (first | rw [ev_tmp] | rw [ev_const] | skip) <;> simp only [upd_apply, Nat.reduceEqDiff, if_true, if_false, reduceIte, lit_iv, lit_w8, K0_1, K0_2, K0_3, O0_0]
    · first | rfl | (first | rw [ev_tmp] | rw [ev_const] | skip) <;> simp only [upd_apply, Nat.reduceEqDiff, if_true, if_false, reduceIte, lit_iv, lit_w8, K0_1, K0_2, K0_3, O0_0]
    intro v7 h7 own7 wt7
    rw [← hs1] at own7
    have n7 := wt7.nx
    have b67 : By h7 v6 T := own6.sl.keep n7 (fun r hr => wt7.rest r (r6 r hr).2 (fun h9 => by have := (r8 _ h9).2; have := (r6 _ hr).1; omega))
    have k7 : h7.obj h.nx = some (.row .rw 1 (b8 key)) := by rw [wt7.rest _ (by omega) (fun hr => by have := (r8 _ hr).1; omega), F6.2 _ (by omega), FHH.2 _ (by omega)]; exact k5
    have F7 : Fr h.nx h h7 := F1.trans ((G5.le F1.1).trans ((FHH.le (by omega)).trans ((F6.le (by omega)).trans (wt7.fr (by omega) fun r hr => by have := (r8 _ hr).1; omega))))
    repeat (first
      | refine R_seq ?_ | refine R_region ?_ | refine R_nil ?_ | refine Q_seq ?_ | refine Q_norm ?_ | refine Q_seqr ?_ | refine Q_seqx ?_ | refine Q_bl ?_ | refine Q_blr ?_ | refine Q_blx ?_ | refine Q_blo rfl ?_ | refine R_block ?_ | refine R_skip ?_ | refine R_exit ?_ | refine R_ret ?_ | refine I_true ?_ | refine I_false ?_ | refine N_exit ?_ | refine N_ret ?_
      | ((first | apply R_op | apply R_op0)
         · (first | (simp (maxDischargeDepth := 9) only [RA, Nat.reduceEqDiff, Nat.reduceLT, Nat.reduceLeDiff, Nat.reduceAdd, Nat.reduceSub, Nat.reduceMul, Nat.reduceDiv, Nat.reduceMod, Nat.reducePow, Nat.reduceBEq, Nat.reduceGT, reduceIte, j10, T1, T3, T5, T30, T38, cvi_8 Try.underlying3 Try.underlying5, K0_1, K0_2, K0_3, O0_0] <;> rfl) | ((repeat (first | (simp (maxDischargeDepth := 9) only [RA, Nat.reduceEqDiff, Nat.reduceLT, Nat.reduceLeDiff, Nat.reduceAdd, Nat.reduceSub, Nat.reduceMul, Nat.reduceDiv, Nat.reduceMod, Nat.reducePow, Nat.reduceBEq, Nat.reduceGT, reduceIte, j10, T1, T3, T5, T30, T38, cvi_8 Try.underlying3 Try.underlying5, K0_1, K0_2, K0_3, O0_0]; done) | simp (maxDischargeDepth := 9) only [RA, Nat.reduceEqDiff, Nat.reduceLT, Nat.reduceLeDiff, Nat.reduceAdd, Nat.reduceSub, Nat.reduceMul, Nat.reduceDiv, Nat.reduceMod, Nat.reducePow, Nat.reduceBEq, Nat.reduceGT, reduceIte, j10, T1, T3, T5, T30, T38, cvi_8 Try.underlying3 Try.underlying5, K0_1, K0_2, K0_3, O0_0] | simp (disch := first | assumption | omega) only [RV, j10, T1, T3, T5, T30, T38, cvi_8 Try.underlying3 Try.underlying5, K0_1, K0_2, K0_3, O0_0])) <;> rfl)))
      | (apply R_cond
         · (simp only [RE, Nat.reduceEqDiff, Nat.reduceLT, Nat.reduceLeDiff, Nat.reduceBEq, reduceIte, j10, T1, T3, T5, T30, T38, cvi_8 Try.underlying3 Try.underlying5, K0_1, K0_2, K0_3, O0_0] <;> rfl))
      | (apply R_grd
         · (simp only [yieldedA, RY, Nat.reduceEqDiff, reduceIte, j10, T1, T3, T5, T30, T38, cvi_8 Try.underlying3 Try.underlying5, K0_1, K0_2, K0_3, O0_0] <;> rfl)))
    refine ⟨rfl, by first | rfl | simp only [List.map_cons, List.map_nil, RH, Nat.reduceAdd, Nat.reduceEqDiff, reduceIte, k7, T1, T3, T5, T30, T38, cvi_8 Try.underlying3 Try.underlying5, K0_1, K0_2, K0_3, O0_0], by first | rfl | simp only [List.map_cons, List.map_nil, RH, Nat.reduceAdd, Nat.reduceEqDiff, reduceIte, k7, T1, T3, T5, T30, T38, cvi_8 Try.underlying3 Try.underlying5, K0_1, K0_2, K0_3, O0_0], by first | (simp only [RH, k7, T1, T3, T5, T30, T38, cvi_8 Try.underlying3 Try.underlying5, K0_1, K0_2, K0_3, O0_0]; done) | ((try simp only [RH, k7, T1, T3, T5, T30, T38, cvi_8 Try.underlying3 Try.underlying5, K0_1, K0_2, K0_3, O0_0]); omega), ?_⟩
    refine ⟨by (try simp only [List.map_cons, List.map_nil, RH, Nat.reduceAdd, Nat.reduceEqDiff, reduceIte, ev_tmp, ev_const, lit_iv, lit_w8, lit_w32, lit_w64, envOf0, envOf1, envOf2, envOf3, envOf4, envOf5, T1, T3, T5, T30, T38, cvi_8 Try.underlying3 Try.underlying5, K0_1, K0_2, K0_3, O0_0]), ?_, ?_, F7⟩
    · (try simp only [List.map_cons, List.map_nil, RH, Nat.reduceAdd, Nat.reduceEqDiff, reduceIte, ev_tmp, ev_const, lit_iv, lit_w8, lit_w32, lit_w64, envOf0, envOf1, envOf2, envOf3, envOf4, envOf5, T1, T3, T5, T30, T38, cvi_8 Try.underlying3 Try.underlying5, K0_1, K0_2, K0_3, O0_0])
      exact own7
    · (try simp only [List.map_cons, List.map_nil, RH, Nat.reduceAdd, Nat.reduceEqDiff, reduceIte, ev_tmp, ev_const, lit_iv, lit_w8, lit_w32, lit_w64, envOf0, envOf1, envOf2, envOf3, envOf4, envOf5, T1, T3, T5, T30, T38, cvi_8 Try.underlying3 Try.underlying5, K0_1, K0_2, K0_3, O0_0])
      exact b67
  · intro e1 h1 hK hO hN ⟨j10, own8, b9, F1⟩
    simp only [List.map_cons, List.map_nil, List.cons.injEq, and_true, RH, Nat.reduceAdd, Nat.reduceEqDiff, reduceIte, envOf0, envOf1, envOf2, envOf3, envOf4, envOf5] at hK
    obtain ⟨K0_1, K0_2, K0_3⟩ := hK
    simp only [List.map_cons, List.map_nil, List.cons.injEq, and_true, RH, Nat.reduceAdd, Nat.reduceEqDiff, reduceIte, envOf0, envOf1, envOf2, envOf3, envOf4, envOf5] at hO
    have O0_0 := hO
    try simp only [RH] at hN
    have hol := expO_length key info ((n + 31) / 32)
    have hnr : ¬ 32 * ((n + 31) / 32) < n := by omega
    have hnr2 : n ≤ 32 * ((n + 31) / 32) := by omega
    have s8 := own8.sl
    rw [hol] at s8
    repeat (first
      | refine R_seq ?_ | refine R_region ?_ | refine R_nil ?_ | refine Q_seq ?_ | refine Q_norm ?_ | refine Q_seqr ?_ | refine Q_seqx ?_ | refine Q_bl ?_ | refine Q_blr ?_ | refine Q_blx ?_ | refine Q_blo rfl ?_ | refine R_block ?_ | refine R_skip ?_ | refine R_exit ?_ | refine R_ret ?_ | refine I_true ?_ | refine I_false ?_ | refine N_exit ?_ | refine N_ret ?_
      | (refine R_draw (by kernel_rfl) ?_)
      | ((first | apply R_op | apply R_op0)
         · (first | (simp (maxDischargeDepth := 9) only [RA, Nat.reduceEqDiff, Nat.reduceLT, Nat.reduceLeDiff, Nat.reduceAdd, Nat.reduceSub, Nat.reduceMul, Nat.reduceDiv, Nat.reduceMod, Nat.reducePow, Nat.reduceBEq, Nat.reduceGT, reduceIte, j10, S38len s8, S38h s8, hnr, hnr2, fr_refl, Nat.le_refl, T1, T3, T5, T30, T38, cvi_8 Try.underlying3 Try.underlying5, K0_1, K0_2, K0_3, O0_0] <;> rfl) | ((repeat (first | (simp (maxDischargeDepth := 9) only [RA, Nat.reduceEqDiff, Nat.reduceLT, Nat.reduceLeDiff, Nat.reduceAdd, Nat.reduceSub, Nat.reduceMul, Nat.reduceDiv, Nat.reduceMod, Nat.reducePow, Nat.reduceBEq, Nat.reduceGT, reduceIte, j10, S38len s8, S38h s8, hnr, hnr2, fr_refl, Nat.le_refl, T1, T3, T5, T30, T38, cvi_8 Try.underlying3 Try.underlying5, K0_1, K0_2, K0_3, O0_0]; done) | simp (maxDischargeDepth := 9) only [RA, Nat.reduceEqDiff, Nat.reduceLT, Nat.reduceLeDiff, Nat.reduceAdd, Nat.reduceSub, Nat.reduceMul, Nat.reduceDiv, Nat.reduceMod, Nat.reducePow, Nat.reduceBEq, Nat.reduceGT, reduceIte, j10, S38len s8, S38h s8, hnr, hnr2, fr_refl, Nat.le_refl, T1, T3, T5, T30, T38, cvi_8 Try.underlying3 Try.underlying5, K0_1, K0_2, K0_3, O0_0] | simp (disch := first | assumption | omega) only [RV, j10, S38len s8, S38h s8, hnr, hnr2, fr_refl, Nat.le_refl, T1, T3, T5, T30, T38, cvi_8 Try.underlying3 Try.underlying5, K0_1, K0_2, K0_3, O0_0])) <;> rfl)))
      | (apply R_cond
         · (simp only [RE, Nat.reduceEqDiff, Nat.reduceLT, Nat.reduceLeDiff, Nat.reduceBEq, reduceIte, j10, S38len s8, S38h s8, hnr, hnr2, fr_refl, Nat.le_refl, T1, T3, T5, T30, T38, cvi_8 Try.underlying3 Try.underlying5, K0_1, K0_2, K0_3, O0_0] <;> rfl))
      | (apply R_grd
         · (simp only [yieldedA, RY, Nat.reduceEqDiff, reduceIte, j10, S38len s8, S38h s8, hnr, hnr2, fr_refl, Nat.le_refl, T1, T3, T5, T30, T38, cvi_8 Try.underlying3 Try.underlying5, K0_1, K0_2, K0_3, O0_0] <;> rfl)))
    refine ⟨.inr rfl, _, rfl, ⟨subS 1 0 n none (e1 8), ?_, ?_⟩, F1⟩
    · (try simp only [List.map_cons, List.map_nil, RH, Nat.reduceAdd, Nat.reduceEqDiff, reduceIte, ev_tmp, ev_const, lit_iv, lit_w8, lit_w32, lit_w64, envOf0, envOf1, envOf2, envOf3, envOf4, envOf5, packR, T1, T3, T5, T30, T38, cvi_8 Try.underlying3 Try.underlying5, K0_1, K0_2, K0_3, O0_0])
    · have own8' : By h1 (e1 8) _ := own8.sl
      exact own8'.subh (by rw [hol]; omega) (fun m hm => by cases hm)
end Go.Proofs.Ytfehhihllenjiaa
