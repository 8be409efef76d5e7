/- Bytes with those of the stream: the program. -/
import Derived.Test.YtfehhihllenjiaaGa
import Derived.Test.YtfehhihllenjiaaPa
set_option linter.all false
namespace Go.Proofs.Ytfehhihllenjiaa
open Go.Proofs
attribute [local irreducible] evOps iter evD evF evC evLoad evStore evAlloc evIndexAddr evIndex evLenB evBox evBin evUn evConvert evExtract evSlice evAppend evCopy evNil evBuild evMakeSlice evBuildSlice evBuiltin Program.underlying
attribute [local irreducible] block xorS
theorem inl48 : inlOf Try.prog 48 = true := by kernel_rfl
theorem iso48 : isoOf Try.prog 48 = false := by kernel_rfl
set_option maxRecDepth 20000 in
set_option maxHeartbeats 8000000 in
theorem xor48 (q : Nat) (h : Heap) (k n' : List (BitVec 8)) (hk : k.length = 32) (hn : n'.length = 12) (c : BitVec 32) (v : Value) (b : List (BitVec 8)) (hb : By h v b) (hl : b.length ≤ 4294967296) :
    ∃ v' h', fcall Try.prog (q + 7) (.func (.func 48) #[] #[]) [.agg ⟨b8 k⟩, .agg ⟨b8 n'⟩, w32 c, v] h = some (.ok v', h') ∧ OwB h.nx h' v' (xorS k n' c b) ∧ Fr h.nx h h' := by
  rw [fcall_inl inl48 iso48, evF_eq Try.func48 rfl]
  apply evEnd_of_W
  simp only [Try.f48]
  repeat (first
    | refine R_seq ?_ | refine R_region ?_ | refine R_nil ?_ | refine Q_seq ?_ | refine Q_norm ?_ | refine Q_seqr ?_ | refine Q_seqx ?_ | refine Q_bl ?_ | refine Q_blr ?_ | refine Q_blx ?_ | refine Q_blo rfl ?_ | refine R_block ?_ | refine R_skip ?_ | refine R_exit ?_ | refine R_ret ?_ | refine I_true ?_ | refine I_false ?_ | refine N_exit ?_ | refine N_ret ?_
    | (refine R_draw (by kernel_rfl) ?_)
    | ((first | apply R_op | apply R_op0)
       · ((repeat (first | simp (maxDischargeDepth := 9) only [RA, Nat.reduceEqDiff, Nat.reduceLT, Nat.reduceLeDiff, Nat.reduceAdd, Nat.reduceSub, Nat.reduceMul, Nat.reduceDiv, Nat.reduceMod, Nat.reducePow, Nat.reduceBEq, Nat.reduceGT, reduceIte, hk, hn, S38len hb, S38ia hb, S38ld hb, S38h hb, S38l hb, S38lh hb, S38n hb, S38hm hb, S38lhm hb, S38str hb, RF, T1, T3, T5, T22, T30, T32, T33, T38] | simp (disch := first | assumption | omega) only [RV, hk, hn, S38len hb, S38ia hb, S38ld hb, S38h hb, S38l hb, S38lh hb, S38n hb, S38hm hb, S38lhm hb, S38str hb, RF])) <;> rfl))
    | (apply R_cond
       · (simp only [RE, Nat.reduceEqDiff, Nat.reduceLT, Nat.reduceLeDiff, Nat.reduceBEq, reduceIte] <;> rfl))
    | (apply R_grd
       · (simp only [yieldedA, RY, Nat.reduceEqDiff, reduceIte] <;> rfl)))
  refine R_mk E38 (n := 0) (m := b.length) ?_ ?_ (Nat.zero_le _) (by omega) rfl ?_
  · (try simp only [List.map_cons, List.map_nil, RH, Nat.reduceAdd, Nat.reduceEqDiff, reduceIte, ev_tmp, ev_const, lit_iv, lit_w8, lit_w32, lit_w64, envOf0, envOf1, envOf2, envOf3, envOf4, envOf5, ev_const, ev_tmp, T1, T3, T5, T22, T30, T32, T33, T38])
  · (try simp only [List.map_cons, List.map_nil, RH, Nat.reduceAdd, Nat.reduceEqDiff, reduceIte, ev_tmp, ev_const, lit_iv, lit_w8, lit_w32, lit_w64, envOf0, envOf1, envOf2, envOf3, envOf4, envOf5, ev_const, ev_tmp, T1, T3, T5, T22, T30, T32, T33, T38])
  intro v0 h0 own0 f0 n0
  simp only [nx_new, List.replicate_zero] at own0 f0 n0
  have F0 : Fr h.nx h h0 := ((Fr.new (Fr.new (.refl _ _) (Nat.le_refl _) _ _ _) (by rw [nx_new]; omega) _ _ _)).trans (f0.le (by omega))
  have N0 : h.nx + 2 ≤ h0.nx := by have := f0.1; simpa [nx_new] using this
  have o0 : h0.obj h.nx = some (.row .rw 1 (b8 k)) := by
    rw [f0.2 _ (by omega)]; simp [obj_new, nx_new]
  have o1 : h0.obj (h.nx + 1) = some (.row .rw 1 (b8 n')) := by
    rw [f0.2 _ (by omega)]; simp [obj_new, nx_new]
  repeat (first
    | refine R_seq ?_ | refine R_region ?_ | refine R_nil ?_ | refine Q_seq ?_ | refine Q_norm ?_ | refine Q_seqr ?_ | refine Q_seqx ?_ | refine Q_bl ?_ | refine Q_blr ?_ | refine Q_blx ?_ | refine Q_blo rfl ?_ | refine R_block ?_ | refine R_skip ?_ | refine R_exit ?_ | refine R_ret ?_ | refine I_true ?_ | refine I_false ?_ | refine N_exit ?_ | refine N_ret ?_
    | (refine R_draw (by kernel_rfl) ?_)
    | ((first | apply R_op | apply R_op0)
       · ((repeat (first | simp (maxDischargeDepth := 9) only [RA, Nat.reduceEqDiff, Nat.reduceLT, Nat.reduceLeDiff, Nat.reduceAdd, Nat.reduceSub, Nat.reduceMul, Nat.reduceDiv, Nat.reduceMod, Nat.reducePow, Nat.reduceBEq, Nat.reduceGT, reduceIte, T1, T3, T5, T22, T30, T32, T33, T38] | simp (disch := first | assumption | omega) only [RV])) <;> rfl))
    | (apply R_cond
       · (simp only [RE, Nat.reduceEqDiff, Nat.reduceLT, Nat.reduceLeDiff, Nat.reduceBEq, reduceIte] <;> rfl))
    | (apply R_grd
       · (simp only [yieldedA, RY, Nat.reduceEqDiff, reduceIte] <;> rfl)))
  refine W_loopK [4, 5] [h.nx, h.nx + 1] (fun j e1 h1 => ∃ vb, e1 3 = vb ∧ By h vb (b.drop (64 * j)) ∧ e1 2 = w32 (c + BitVec.ofNat 32 j) ∧ OwB (h.nx + 2) h1 (e1 9) (xorS k n' c (b.take (64 * j))) ∧ Fr h.nx h h1) ((b.length + 63) / 64) (by omega) ?_ ?_ ?_
  · refine ⟨v, ?_, by simpa using hb, ?_, ?_, F0⟩
    · (try simp only [List.map_cons, List.map_nil, RH, Nat.reduceAdd, Nat.reduceEqDiff, reduceIte, ev_tmp, ev_const, lit_iv, lit_w8, lit_w32, lit_w64, envOf0, envOf1, envOf2, envOf3, envOf4, envOf5, T1, T3, T5, T22, T30, T32, T33, T38])
    · (try simp only [List.map_cons, List.map_nil, RH, Nat.reduceAdd, Nat.reduceEqDiff, reduceIte, ev_tmp, ev_const, lit_iv, lit_w8, lit_w32, lit_w64, envOf0, envOf1, envOf2, envOf3, envOf4, envOf5, BitVec.add_zero, T1, T3, T5, T22, T30, T32, T33, T38])
    · (try simp only [List.map_cons, List.map_nil, RH, Nat.reduceAdd, Nat.reduceEqDiff, reduceIte, ev_tmp, ev_const, lit_iv, lit_w8, lit_w32, lit_w64, envOf0, envOf1, envOf2, envOf3, envOf4, envOf5, T1, T3, T5, T22, T30, T32, T33, T38])
      rw [show xorS k n' c (b.take (64 * 0)) = [] from List.length_eq_zero_iff.1 (by rw [xorS_length]; simp)]
      exact own0
  · intro j hj e1 h1 hK hO hN ⟨vb, j3, hvb, j2, own1, F1⟩
    simp only [List.map_cons, List.map_nil, List.cons.injEq, and_true, RH, Nat.reduceAdd, Nat.reduceEqDiff, reduceIte, envOf0, envOf1, envOf2, envOf3, envOf4, envOf5, o0, o1] at hK
    obtain ⟨K0_4, K0_5⟩ := hK
    simp only [List.map_cons, List.map_nil, List.cons.injEq, and_true, RH, Nat.reduceAdd, Nat.reduceEqDiff, reduceIte, envOf0, envOf1, envOf2, envOf3, envOf4, envOf5, o0, o1] at hO
    obtain ⟨O0_0, O0_1⟩ := hO
    try simp only [RH] at hN
    have N1 : h.nx + 2 ≤ h1.nx := Nat.le_trans N0 hN
    have hpos : 0 < (b.drop (64 * j)).length := by rw [List.length_drop]; omega
    have hsub : By h (subS 1 0 (min (b.drop (64 * j)).length 64) none vb) ((b.drop (64 * j)).take 64) := by
      have := hvb.subh (mx := none) (hh := min (b.drop (64 * j)).length 64) (Nat.min_le_left _ _) (fun m hm => nomatch hm)
      rwa [show (b.drop (64 * j)).take (min (b.drop (64 * j)).length 64) = (b.drop (64 * j)).take 64 by rw [Nat.min_comm, List.take_eq_take_iff]; simp] at this
    have hm1 : min (b.drop (64 * j)).length 64 ≤ (b.drop (64 * j)).length := Nat.min_le_left _ _
    have hmin : ((b.drop (64 * j)).take 64).length = min (b.drop (64 * j)).length 64 := by rw [List.length_take, Nat.min_comm]
    have a1 : (h.nx = h1.nx) = False := eq_false (by omega)
    have a2 : (h.nx + 1 = h1.nx) = False := eq_false (by omega)
    have a3 : h.nx ≤ h1.nx := by omega
    repeat (first
      | refine R_seq ?_ | refine R_region ?_ | refine R_nil ?_ | refine Q_seq ?_ | refine Q_norm ?_ | refine Q_seqr ?_ | refine Q_seqx ?_ | refine Q_bl ?_ | refine Q_blr ?_ | refine Q_blx ?_ | refine Q_blo rfl ?_ | refine R_block ?_ | refine R_skip ?_ | refine R_exit ?_ | refine R_ret ?_ | refine I_true ?_ | refine I_false ?_ | refine N_exit ?_ | refine N_ret ?_
      | (refine R_draw (by kernel_rfl) ?_)
      | ((first | apply R_op | apply R_op0)
         · ((repeat (first | simp (maxDischargeDepth := 9) only [RA, Nat.reduceEqDiff, Nat.reduceLT, Nat.reduceLeDiff, Nat.reduceAdd, Nat.reduceSub, Nat.reduceMul, Nat.reduceDiv, Nat.reduceMod, Nat.reducePow, Nat.reduceBEq, Nat.reduceGT, reduceIte, j3, j2, S38len hvb, S38ia hvb, S38ld hvb, S38h hvb, S38l hvb, S38lh hvb, S38n hvb, S38hm hvb, S38lhm hvb, S38str hvb, RF, hpos, hk, hn, cut8 hk, cut8 hn, block45 q k n' hk hn, puts8 (block_length k n' _) List.length_replicate, bi_min, hm1, hsub, S38len hsub, a1, a2, a3, F1, T1, T3, T5, T22, T30, T32, T33, T38, K0_4, K0_5, O0_0, O0_1] | simp (disch := first | assumption | omega) only [RV, j3, j2, S38len hvb, S38ia hvb, S38ld hvb, S38h hvb, S38l hvb, S38lh hvb, S38n hvb, S38hm hvb, S38lhm hvb, S38str hvb, RF, hpos, hk, hn, cut8 hk, cut8 hn, block45 q k n' hk hn, puts8 (block_length k n' _) List.length_replicate, bi_min, hm1, hsub, S38len hsub, a1, a2, a3, F1, K0_4, K0_5, O0_0, O0_1])) <;> rfl))
      | (apply R_cond
         · (simp only [RE, Nat.reduceEqDiff, Nat.reduceLT, Nat.reduceLeDiff, Nat.reduceBEq, reduceIte] <;> rfl))
      | (apply R_grd
         · (simp only [yieldedA, RY, Nat.reduceEqDiff, reduceIte] <;> rfl)))
    refine W_loopK [2, 3, 4, 5, 10, 11, 29, 30] [h.nx, h.nx + 1, h1.nx] (fun i e2 h2 => e2 31 = iv i ∧ OwB (h.nx + 2) h2 (e2 9) (xorS k n' c (b.take (64 * j + i))) ∧ Fr h.nx h h2 ∧ h1.nx ∉ rowsOfV (e2 9)) ((b.drop (64 * j)).take 64).length (by rw [hmin]; omega) ?_ ?_ ?_
    · refine ⟨?_, ?_, ?_, ?_⟩
      · (try simp only [List.map_cons, List.map_nil, RH, Nat.reduceAdd, Nat.reduceEqDiff, reduceIte, ev_tmp, ev_const, lit_iv, lit_w8, lit_w32, lit_w64, envOf0, envOf1, envOf2, envOf3, envOf4, envOf5, T1, T3, T5, T22, T30, T32, T33, T38, K0_4, K0_5, O0_0, O0_1])
      · (try simp only [List.map_cons, List.map_nil, RH, Nat.reduceAdd, Nat.reduceEqDiff, reduceIte, ev_tmp, ev_const, lit_iv, lit_w8, lit_w32, lit_w64, envOf0, envOf1, envOf2, envOf3, envOf4, envOf5, T1, T3, T5, T22, T30, T32, T33, T38, K0_4, K0_5, O0_0, O0_1])
        exact own1.new.putR fun hr => absurd (own1.rows _ hr).2 (by omega)
      · exact (F1.new (by omega) _ _ _).put (by omega) _
      · (try simp only [List.map_cons, List.map_nil, RH, Nat.reduceAdd, Nat.reduceEqDiff, reduceIte, ev_tmp, ev_const, lit_iv, lit_w8, lit_w32, lit_w64, envOf0, envOf1, envOf2, envOf3, envOf4, envOf5, T1, T3, T5, T22, T30, T32, T33, T38, K0_4, K0_5, O0_0, O0_1])
        exact fun hr => absurd (own1.rows _ hr).2 (by omega)
    · intro i hi e2 h2 hK hO hN ⟨j31, own2, F2, nr2⟩
      simp only [List.map_cons, List.map_nil, List.cons.injEq, and_true, RH, Nat.reduceAdd, Nat.reduceEqDiff, reduceIte, envOf0, envOf1, envOf2, envOf3, envOf4, envOf5, a1, a2, a3, j3, j2, K0_4, K0_5, O0_0, O0_1] at hK
      obtain ⟨K1_2, K1_3, K1_4, K1_5, K1_10, K1_11, K1_29, K1_30⟩ := hK
      simp only [List.map_cons, List.map_nil, List.cons.injEq, and_true, RH, Nat.reduceAdd, Nat.reduceEqDiff, reduceIte, envOf0, envOf1, envOf2, envOf3, envOf4, envOf5, a1, a2, a3, j3, j2, K0_4, K0_5, O0_0, O0_1] at hO
      obtain ⟨O1_0, O1_1, O1_2⟩ := hO
      try simp only [RH] at hN
      have i64 : i < 64 := by rw [hmin] at hi; omega
      have b1 : (h.nx = h2.nx) = False := eq_false (by omega)
      have b2 : (h.nx + 1 = h2.nx) = False := eq_false (by omega)
      have b3 : (h1.nx = h2.nx) = False := eq_false (by omega)
      have b4 : h.nx ≤ h2.nx := by omega
      have hbl := block_length k n' (c + BitVec.ofNat 32 j)
      repeat (first
        | refine R_seq ?_ | refine R_region ?_ | refine R_nil ?_ | refine Q_seq ?_ | refine Q_norm ?_ | refine Q_seqr ?_ | refine Q_seqx ?_ | refine Q_bl ?_ | refine Q_blr ?_ | refine Q_blx ?_ | refine Q_blo rfl ?_ | refine R_block ?_ | refine R_skip ?_ | refine R_exit ?_ | refine R_ret ?_ | refine I_true ?_ | refine I_false ?_ | refine N_exit ?_ | refine N_ret ?_
        | (refine R_draw (by kernel_rfl) ?_)
        | ((first | apply R_op | apply R_op0)
           · ((repeat (first | simp (maxDischargeDepth := 9) only [RA, Nat.reduceEqDiff, Nat.reduceLT, Nat.reduceLeDiff, Nat.reduceAdd, Nat.reduceSub, Nat.reduceMul, Nat.reduceDiv, Nat.reduceMod, Nat.reducePow, Nat.reduceBEq, Nat.reduceGT, reduceIte, j31, hi, i64, S38len hsub, S38ia hsub, S38ld hsub, S38h hsub, S38l hsub, S38lh hsub, S38n hsub, S38hm hsub, S38lhm hsub, S38str hsub, RF, F2, b1, b2, b3, b4, hbl, T1, T3, T5, T22, T30, T32, T33, T38, K0_4, K0_5, O0_0, O0_1, K1_2, K1_3, K1_4, K1_5, K1_10, K1_11, K1_29, K1_30, O1_0, O1_1, O1_2] | simp (disch := first | assumption | omega) only [RV, j31, hi, i64, S38len hsub, S38ia hsub, S38ld hsub, S38h hsub, S38l hsub, S38lh hsub, S38n hsub, S38hm hsub, S38lhm hsub, S38str hsub, RF, F2, b1, b2, b3, b4, hbl, K0_4, K0_5, O0_0, O0_1, K1_2, K1_3, K1_4, K1_5, K1_10, K1_11, K1_29, K1_30, O1_0, O1_1, O1_2])) <;> rfl))
        | (apply R_cond
           · (simp only [RE, Nat.reduceEqDiff, Nat.reduceLT, Nat.reduceLeDiff, Nat.reduceBEq, reduceIte] <;> rfl))
        | (apply R_grd
           · (simp only [yieldedA, RY, Nat.reduceEqDiff, reduceIte] <;> rfl)))
      refine R_app E38 Try.underlying38 (v := e2 9) (w := .slice (some ⟨h2.nx, 0, none⟩) 1 1) (lo := h.nx + 2) (xs := xorS k n' c (b.take (64 * j + i))) (ys := [((b.drop (64 * j)).take 64).getD i 0#8 ^^^ (block k n' (c + BitVec.ofNat 32 j)).getD i 0#8]) ?_ ?_ own2.new one_by (by simp only [RH] at hN ⊢; omega) ?_ ?_
      · first | rfl | (first | rw [ev_tmp] | rw [ev_const] | skip) <;> simp only [upd_apply, Nat.reduceEqDiff, if_true, if_false, reduceIte, lit_iv, lit_w8, K0_4, K0_5, O0_0, O0_1, K1_2, K1_3, K1_4, K1_5, K1_10, K1_11, K1_29, K1_30, O1_0, O1_1, O1_2]
      · first | rfl | (first | rw [ev_tmp] | rw [ev_const] | skip) <;> simp only [upd_apply, Nat.reduceEqDiff, if_true, if_false, reduceIte, lit_iv, lit_w8, K0_4, K0_5, O0_0, O0_1, K1_2, K1_3, K1_4, K1_5, K1_10, K1_11, K1_29, K1_30, O1_0, O1_1, O1_2]
      · rw [xorS_length]; simp; omega
      · intro v3 h3 own3 wt3
        rw [xorS_step hi] at own3
        have w0 := wt3.rest h.nx (by simp only [RH] at hN ⊢; omega) (fun hr => by have := (own2.rows _ hr).1; omega)
        have w1 := wt3.rest (h.nx + 1) (by simp only [RH] at hN ⊢; omega) (fun hr => by have := (own2.rows _ hr).1; omega)
        have w2 := wt3.rest h1.nx (by simp only [RH] at hN ⊢; omega) nr2
        have wn := wt3.nx
        simp only [RH, b1, b2, b3] at w0 w1 w2 wn
        repeat (first
          | refine R_seq ?_ | refine R_region ?_ | refine R_nil ?_ | refine Q_seq ?_ | refine Q_norm ?_ | refine Q_seqr ?_ | refine Q_seqx ?_ | refine Q_bl ?_ | refine Q_blr ?_ | refine Q_blx ?_ | refine Q_blo rfl ?_ | refine R_block ?_ | refine R_skip ?_ | refine R_exit ?_ | refine R_ret ?_ | refine I_true ?_ | refine I_false ?_ | refine N_exit ?_ | refine N_ret ?_
          | (refine R_draw (by kernel_rfl) ?_)
          | ((first | apply R_op | apply R_op0)
             · ((repeat (first | simp (maxDischargeDepth := 9) only [RA, Nat.reduceEqDiff, Nat.reduceLT, Nat.reduceLeDiff, Nat.reduceAdd, Nat.reduceSub, Nat.reduceMul, Nat.reduceDiv, Nat.reduceMod, Nat.reducePow, Nat.reduceBEq, Nat.reduceGT, reduceIte, j31, T1, T3, T5, T22, T30, T32, T33, T38, K0_4, K0_5, O0_0, O0_1, K1_2, K1_3, K1_4, K1_5, K1_10, K1_11, K1_29, K1_30, O1_0, O1_1, O1_2] | simp (disch := first | assumption | omega) only [RV, j31, K0_4, K0_5, O0_0, O0_1, K1_2, K1_3, K1_4, K1_5, K1_10, K1_11, K1_29, K1_30, O1_0, O1_1, O1_2])) <;> rfl))
          | (apply R_cond
             · (simp only [RE, Nat.reduceEqDiff, Nat.reduceLT, Nat.reduceLeDiff, Nat.reduceBEq, reduceIte] <;> rfl))
          | (apply R_grd
             · (simp only [yieldedA, RY, Nat.reduceEqDiff, reduceIte] <;> rfl)))
        refine ⟨rfl, by first | rfl | simp only [List.map_cons, List.map_nil, RH, Nat.reduceAdd, Nat.reduceEqDiff, reduceIte, w0, w1, w2, T1, T3, T5, T22, T30, T32, T33, T38, K0_4, K0_5, O0_0, O0_1, K1_2, K1_3, K1_4, K1_5, K1_10, K1_11, K1_29, K1_30, O1_0, O1_1, O1_2], by first | rfl | simp only [List.map_cons, List.map_nil, RH, Nat.reduceAdd, Nat.reduceEqDiff, reduceIte, w0, w1, w2, T1, T3, T5, T22, T30, T32, T33, T38, K0_4, K0_5, O0_0, O0_1, K1_2, K1_3, K1_4, K1_5, K1_10, K1_11, K1_29, K1_30, O1_0, O1_1, O1_2], by first | (simp only [RH, w0, w1, w2, T1, T3, T5, T22, T30, T32, T33, T38, K0_4, K0_5, O0_0, O0_1, K1_2, K1_3, K1_4, K1_5, K1_10, K1_11, K1_29, K1_30, O1_0, O1_1, O1_2]; done) | ((try simp only [RH, w0, w1, w2, T1, T3, T5, T22, T30, T32, T33, T38, K0_4, K0_5, O0_0, O0_1, K1_2, K1_3, K1_4, K1_5, K1_10, K1_11, K1_29, K1_30, O1_0, O1_1, O1_2]); omega), ?_⟩
        refine ⟨?_, ?_, ?_, ?_⟩
        · (try simp only [List.map_cons, List.map_nil, RH, Nat.reduceAdd, Nat.reduceEqDiff, reduceIte, ev_tmp, ev_const, lit_iv, lit_w8, lit_w32, lit_w64, envOf0, envOf1, envOf2, envOf3, envOf4, envOf5, T1, T3, T5, T22, T30, T32, T33, T38, K0_4, K0_5, O0_0, O0_1, K1_2, K1_3, K1_4, K1_5, K1_10, K1_11, K1_29, K1_30, O1_0, O1_1, O1_2])
        · (try simp only [List.map_cons, List.map_nil, RH, Nat.reduceAdd, Nat.reduceEqDiff, reduceIte, ev_tmp, ev_const, lit_iv, lit_w8, lit_w32, lit_w64, envOf0, envOf1, envOf2, envOf3, envOf4, envOf5, T1, T3, T5, T22, T30, T32, T33, T38, K0_4, K0_5, O0_0, O0_1, K1_2, K1_3, K1_4, K1_5, K1_10, K1_11, K1_29, K1_30, O1_0, O1_1, O1_2])
          exact own3
        · exact (F2.new b4 _ _ _).trans (wt3.fr (by rw [nx_new]; omega) fun r hr => by have := (own2.rows _ hr).1; omega)
        · (try simp only [List.map_cons, List.map_nil, RH, Nat.reduceAdd, Nat.reduceEqDiff, reduceIte, ev_tmp, ev_const, lit_iv, lit_w8, lit_w32, lit_w64, envOf0, envOf1, envOf2, envOf3, envOf4, envOf5, T1, T3, T5, T22, T30, T32, T33, T38, K0_4, K0_5, O0_0, O0_1, K1_2, K1_3, K1_4, K1_5, K1_10, K1_11, K1_29, K1_30, O1_0, O1_1, O1_2])
          exact wt3.not nr2 (by simp only [RH] at hN ⊢; omega)
    · intro e2 h2 hK hO hN ⟨j31, own2, F2, nr2⟩
      simp only [List.map_cons, List.map_nil, List.cons.injEq, and_true, RH, Nat.reduceAdd, Nat.reduceEqDiff, reduceIte, envOf0, envOf1, envOf2, envOf3, envOf4, envOf5, a1, a2, a3, j3, j2, K0_4, K0_5, O0_0, O0_1] at hK
      obtain ⟨K1_2, K1_3, K1_4, K1_5, K1_10, K1_11, K1_29, K1_30⟩ := hK
      simp only [List.map_cons, List.map_nil, List.cons.injEq, and_true, RH, Nat.reduceAdd, Nat.reduceEqDiff, reduceIte, envOf0, envOf1, envOf2, envOf3, envOf4, envOf5, a1, a2, a3, j3, j2, K0_4, K0_5, O0_0, O0_1] at hO
      obtain ⟨O1_0, O1_1, O1_2⟩ := hO
      try simp only [RH] at hN
      repeat (first
        | refine R_seq ?_ | refine R_region ?_ | refine R_nil ?_ | refine Q_seq ?_ | refine Q_norm ?_ | refine Q_seqr ?_ | refine Q_seqx ?_ | refine Q_bl ?_ | refine Q_blr ?_ | refine Q_blx ?_ | refine Q_blo rfl ?_ | refine R_block ?_ | refine R_skip ?_ | refine R_exit ?_ | refine R_ret ?_ | refine I_true ?_ | refine I_false ?_ | refine N_exit ?_ | refine N_ret ?_
        | (refine R_draw (by kernel_rfl) ?_)
        | ((first | apply R_op | apply R_op0)
           · ((repeat (first | simp (maxDischargeDepth := 9) only [RA, Nat.reduceEqDiff, Nat.reduceLT, Nat.reduceLeDiff, Nat.reduceAdd, Nat.reduceSub, Nat.reduceMul, Nat.reduceDiv, Nat.reduceMod, Nat.reducePow, Nat.reduceBEq, Nat.reduceGT, reduceIte, j31, S38len hvb, S38ia hvb, S38ld hvb, S38h hvb, S38l hvb, S38lh hvb, S38n hvb, S38hm hvb, S38lhm hvb, S38str hvb, RF, F2, hm1, T1, T3, T5, T22, T30, T32, T33, T38, K0_4, K0_5, O0_0, O0_1, K1_2, K1_3, K1_4, K1_5, K1_10, K1_11, K1_29, K1_30, O1_0, O1_1, O1_2] | simp (disch := first | assumption | omega) only [RV, j31, S38len hvb, S38ia hvb, S38ld hvb, S38h hvb, S38l hvb, S38lh hvb, S38n hvb, S38hm hvb, S38lhm hvb, S38str hvb, RF, F2, hm1, K0_4, K0_5, O0_0, O0_1, K1_2, K1_3, K1_4, K1_5, K1_10, K1_11, K1_29, K1_30, O1_0, O1_1, O1_2])) <;> rfl))
        | (apply R_cond
           · (simp only [RE, Nat.reduceEqDiff, Nat.reduceLT, Nat.reduceLeDiff, Nat.reduceBEq, reduceIte] <;> rfl))
        | (apply R_grd
           · (simp only [yieldedA, RY, Nat.reduceEqDiff, reduceIte] <;> rfl)))
      refine ⟨rfl, by first | rfl | simp only [List.map_cons, List.map_nil, RH, Nat.reduceAdd, Nat.reduceEqDiff, reduceIte, T1, T3, T5, T22, T30, T32, T33, T38, K0_4, K0_5, O0_0, O0_1, K1_2, K1_3, K1_4, K1_5, K1_10, K1_11, K1_29, K1_30, O1_0, O1_1, O1_2], by first | rfl | simp only [List.map_cons, List.map_nil, RH, Nat.reduceAdd, Nat.reduceEqDiff, reduceIte, T1, T3, T5, T22, T30, T32, T33, T38, K0_4, K0_5, O0_0, O0_1, K1_2, K1_3, K1_4, K1_5, K1_10, K1_11, K1_29, K1_30, O1_0, O1_1, O1_2], by first | (simp only [RH, T1, T3, T5, T22, T30, T32, T33, T38, K0_4, K0_5, O0_0, O0_1, K1_2, K1_3, K1_4, K1_5, K1_10, K1_11, K1_29, K1_30, O1_0, O1_1, O1_2]; done) | ((try simp only [RH, T1, T3, T5, T22, T30, T32, T33, T38, K0_4, K0_5, O0_0, O0_1, K1_2, K1_3, K1_4, K1_5, K1_10, K1_11, K1_29, K1_30, O1_0, O1_1, O1_2]); omega), ?_⟩
      refine ⟨subS 1 (min (b.drop (64 * j)).length 64) (b.drop (64 * j)).length none vb, ?_, ?_, ?_, ?_, F2⟩
      · (try simp only [List.map_cons, List.map_nil, RH, Nat.reduceAdd, Nat.reduceEqDiff, reduceIte, ev_tmp, ev_const, lit_iv, lit_w8, lit_w32, lit_w64, envOf0, envOf1, envOf2, envOf3, envOf4, envOf5, T1, T3, T5, T22, T30, T32, T33, T38, K0_4, K0_5, O0_0, O0_1, K1_2, K1_3, K1_4, K1_5, K1_10, K1_11, K1_29, K1_30, O1_0, O1_1, O1_2])
      · have := hvb.subl hm1
        rw [List.drop_drop] at this
        have e : b.drop (64 * j + min (b.drop (64 * j)).length 64) = b.drop (64 * (j + 1)) := by
          by_cases hc : 64 * (j + 1) ≤ b.length
          · rw [Nat.min_eq_right (by rw [List.length_drop]; omega)]; congr 1
          · have e1 : b.drop (64 * (j + 1)) = [] := List.drop_eq_nil_of_le (by omega)
            rw [e1]
            rw [List.length_drop]
            exact List.drop_eq_nil_of_le (by omega)
        rwa [e] at this
      · (try simp only [List.map_cons, List.map_nil, RH, Nat.reduceAdd, Nat.reduceEqDiff, reduceIte, ev_tmp, ev_const, lit_iv, lit_w8, lit_w32, lit_w64, envOf0, envOf1, envOf2, envOf3, envOf4, envOf5, T1, T3, T5, T22, T30, T32, T33, T38, K0_4, K0_5, O0_0, O0_1, K1_2, K1_3, K1_4, K1_5, K1_10, K1_11, K1_29, K1_30, O1_0, O1_1, O1_2])
        rw [BitVec.add_assoc, ← BitVec.ofNat_add]
      · (try simp only [List.map_cons, List.map_nil, RH, Nat.reduceAdd, Nat.reduceEqDiff, reduceIte, ev_tmp, ev_const, lit_iv, lit_w8, lit_w32, lit_w64, envOf0, envOf1, envOf2, envOf3, envOf4, envOf5, T1, T3, T5, T22, T30, T32, T33, T38, K0_4, K0_5, O0_0, O0_1, K1_2, K1_3, K1_4, K1_5, K1_10, K1_11, K1_29, K1_30, O1_0, O1_1, O1_2])
        have e : b.take (64 * j + ((b.drop (64 * j)).take 64).length) = b.take (64 * (j + 1)) := by
          rw [List.take_eq_take_iff, List.length_take, List.length_drop]
          omega
        rw [e] at own2
        exact own2
  · intro e1 h1 hK hO hN ⟨vb, j3, hvb, j2, own1, F1⟩
    simp only [List.map_cons, List.map_nil, List.cons.injEq, and_true, RH, Nat.reduceAdd, Nat.reduceEqDiff, reduceIte, envOf0, envOf1, envOf2, envOf3, envOf4, envOf5, o0, o1] at hK
    obtain ⟨K0_4, K0_5⟩ := hK
    simp only [List.map_cons, List.map_nil, List.cons.injEq, and_true, RH, Nat.reduceAdd, Nat.reduceEqDiff, reduceIte, envOf0, envOf1, envOf2, envOf3, envOf4, envOf5, o0, o1] at hO
    obtain ⟨O0_0, O0_1⟩ := hO
    try simp only [RH] at hN
    have he : b.drop (64 * ((b.length + 63) / 64)) = [] := List.drop_eq_nil_of_le (by omega)
    have ht : b.take (64 * ((b.length + 63) / 64)) = b := List.take_of_length_le (by omega)
    rw [he] at hvb
    rw [ht] at own1
    repeat (first
      | refine R_seq ?_ | refine R_region ?_ | refine R_nil ?_ | refine Q_seq ?_ | refine Q_norm ?_ | refine Q_seqr ?_ | refine Q_seqx ?_ | refine Q_bl ?_ | refine Q_blr ?_ | refine Q_blx ?_ | refine Q_blo rfl ?_ | refine R_block ?_ | refine R_skip ?_ | refine R_exit ?_ | refine R_ret ?_ | refine I_true ?_ | refine I_false ?_ | refine N_exit ?_ | refine N_ret ?_
      | (refine R_draw (by kernel_rfl) ?_)
      | ((first | apply R_op | apply R_op0)
         · ((repeat (first | simp (maxDischargeDepth := 9) only [RA, Nat.reduceEqDiff, Nat.reduceLT, Nat.reduceLeDiff, Nat.reduceAdd, Nat.reduceSub, Nat.reduceMul, Nat.reduceDiv, Nat.reduceMod, Nat.reducePow, Nat.reduceBEq, Nat.reduceGT, reduceIte, j3, S38len hvb, List.length_nil, T1, T3, T5, T22, T30, T32, T33, T38, K0_4, K0_5, O0_0, O0_1] | simp (disch := first | assumption | omega) only [RV, j3, S38len hvb, List.length_nil, K0_4, K0_5, O0_0, O0_1])) <;> rfl))
      | (apply R_cond
         · (simp only [RE, Nat.reduceEqDiff, Nat.reduceLT, Nat.reduceLeDiff, Nat.reduceBEq, reduceIte] <;> rfl))
      | (apply R_grd
         · (simp only [yieldedA, RY, Nat.reduceEqDiff, reduceIte] <;> rfl)))
    refine ⟨.inr rfl, _, rfl, ?_, F1⟩
    (try simp only [List.map_cons, List.map_nil, RH, Nat.reduceAdd, Nat.reduceEqDiff, reduceIte, ev_tmp, ev_const, lit_iv, lit_w8, lit_w32, lit_w64, envOf0, envOf1, envOf2, envOf3, envOf4, envOf5, packR, T1, T3, T5, T22, T30, T32, T33, T38, K0_4, K0_5, O0_0, O0_1])
    exact own1.le (by omega)
end Go.Proofs.Ytfehhihllenjiaa
