/- The digest: the reference's sum. -/
import Derived.Test.YtfehhihllenjiaaHf
set_option linter.all false
namespace Go.Proofs.Ytfehhihllenjiaa
open Go.Proofs
def outB (s : St) (i : Nat) : BitVec 8 := ((s.l.getD (i / 4) 0#32) >>> (24 - 8 * (i % 4))).setWidth 8
theorem outS_eq (s : St) : filled (outB s) 0#8 32 32 = outS s := filled_full _ _ _
theorem blk_length {p : List (BitVec 8)} {i : Nat} (h : 64 * i + 64 ≤ p.length) : (blk p i).length = 64 := by
  unfold blk; rw [List.length_take, List.length_drop]; omega
attribute [local irreducible] evOps iter evD evF evC evLoad evStore evAlloc evIndexAddr evIndex evLenB evBox evBin evUn evConvert evExtract evSlice evAppend evCopy evNil evBuild evMakeSlice evBuildSlice evBuiltin Program.underlying
attribute [local irreducible] padS padN St.l stAt shaStep outB outS filled blk
theorem inl53 : inlOf Try.prog 53 = true := by kernel_rfl
theorem iso53 : isoOf Try.prog 53 = false := by kernel_rfl
set_option maxRecDepth 20000 in
set_option maxHeartbeats 8000000 in
theorem sum53 (q : Nat) (h : Heap) (v : Value) (b : List (BitVec 8)) (hb : By h v b) (hl : b.length ≤ 2147483648) :
    ∃ v' h', fcall Try.prog (q + 4) (.func (.func 53) #[] #[]) [v] h = some (.ok v', h') ∧ v' = .agg ⟨b8 (sumS b)⟩ ∧ Fr h.nx h h' := by
  rw [fcall_inl inl53 iso53, evF_eq Try.func53 rfl]
  apply evEnd_of_W
  simp only [Try.f53]
  have hNge := padN_ge b.length
  have hNle : padN b.length ≤ b.length + 72 := by unfold padN; omega
  have hN64 : padN b.length = 64 * (padN b.length / 64) := by unfold padN; omega
  have hpl := padS_length b
  repeat (first
    | refine R_seq ?_ | refine R_region ?_ | refine R_nil ?_ | refine Q_seq ?_ | refine Q_norm ?_ | refine Q_seqr ?_ | refine Q_seqx ?_ | refine Q_bl ?_ | refine Q_blr ?_ | refine Q_blx ?_ | refine Q_blo rfl ?_ | refine R_block ?_ | refine R_skip ?_ | refine R_exit ?_ | refine R_ret ?_ | refine I_true ?_ | refine I_false ?_ | refine N_exit ?_ | refine N_ret ?_
    | (refine R_draw (by kernel_rfl) ?_)
    | ((first | apply R_op | apply R_op0)
       · (first | (simp (maxDischargeDepth := 9) only [RA, Nat.reduceEqDiff, Nat.reduceLT, Nat.reduceLeDiff, Nat.reduceAdd, Nat.reduceSub, Nat.reduceMul, Nat.reduceDiv, Nat.reduceMod, Nat.reducePow, Nat.reduceBEq, Nat.reduceGT, reduceIte, T3, T5, T22, T30, T38, T47, cv32_8 Try.underlying22 Try.underlying5] <;> rfl) | ((repeat (first | (simp (maxDischargeDepth := 9) only [RA, Nat.reduceEqDiff, Nat.reduceLT, Nat.reduceLeDiff, Nat.reduceAdd, Nat.reduceSub, Nat.reduceMul, Nat.reduceDiv, Nat.reduceMod, Nat.reducePow, Nat.reduceBEq, Nat.reduceGT, reduceIte, T3, T5, T22, T30, T38, T47, cv32_8 Try.underlying22 Try.underlying5]; done) | simp (maxDischargeDepth := 9) only [RA, Nat.reduceEqDiff, Nat.reduceLT, Nat.reduceLeDiff, Nat.reduceAdd, Nat.reduceSub, Nat.reduceMul, Nat.reduceDiv, Nat.reduceMod, Nat.reducePow, Nat.reduceBEq, Nat.reduceGT, reduceIte, T3, T5, T22, T30, T38, T47, cv32_8 Try.underlying22 Try.underlying5] | simp (disch := first | assumption | omega) only [RV, T3, T5, T22, T30, T38, T47, cv32_8 Try.underlying22 Try.underlying5])) <;> rfl)))
    | (apply R_cond
       · (simp only [RE, Nat.reduceEqDiff, Nat.reduceLT, Nat.reduceLeDiff, Nat.reduceBEq, reduceIte, T3, T5, T22, T30, T38, T47, cv32_8 Try.underlying22 Try.underlying5] <;> rfl))
    | (apply R_grd
       · (simp only [yieldedA, RY, Nat.reduceEqDiff, reduceIte, T3, T5, T22, T30, T38, T47, cv32_8 Try.underlying22 Try.underlying5] <;> rfl)))
  refine R_fn ?_ (pad55 (q + 2) _ v b (hb.fr0 (by (repeat (first | assumption | exact Fr.refl _ _ | refine Fr.new ?_ ?_ _ _ _ | refine Fr.put ?_ ?_ _ | omega | (simp only [RH]; omega))))) hl) ?_
  · rfl
  intro v1 h1 ⟨own1, F1⟩
  simp only [RH] at own1 F1
  have n1 := F1.1
  simp only [RH] at n1
  have o0 := F1.2 h.nx (by omega)
  simp only [RH, rep8, rep32] at o0
  have hps := fun (H : Heap) (p : Nat) (s s' : St) => puts32 (h := H) (b := p) (es := 1) (St.l_length s) (St.l_length s')
  have hps0 := fun (H : Heap) (p : Nat) (s : St) => puts32 (h := H) (b := p) (es := 1) (St.l_length s) (List.length_replicate (n := 8) (a := 0#32))
  have hcs := fun (kd : Kind) (es : Nat) (s : St) => cut32 (k := kd) (es := es) (St.l_length s)
  have a0 : (h.nx = h1.nx) = False := eq_false (by omega)
  repeat (first
    | refine R_seq ?_ | refine R_region ?_ | refine R_nil ?_ | refine Q_seq ?_ | refine Q_norm ?_ | refine Q_seqr ?_ | refine Q_seqx ?_ | refine Q_bl ?_ | refine Q_blr ?_ | refine Q_blx ?_ | refine Q_blo rfl ?_ | refine R_block ?_ | refine R_skip ?_ | refine R_exit ?_ | refine R_ret ?_ | refine I_true ?_ | refine I_false ?_ | refine N_exit ?_ | refine N_ret ?_
    | (refine R_draw (by kernel_rfl) ?_)
    | ((first | apply R_op | apply R_op0)
       · (first | (simp (maxDischargeDepth := 9) only [RA, Nat.reduceEqDiff, Nat.reduceLT, Nat.reduceLeDiff, Nat.reduceAdd, Nat.reduceSub, Nat.reduceMul, Nat.reduceDiv, Nat.reduceMod, Nat.reducePow, Nat.reduceBEq, Nat.reduceGT, reduceIte, start57 (q + 2), rep32, hps0, T3, T5, T22, T30, T38, T47, cv32_8 Try.underlying22 Try.underlying5] <;> rfl) | ((repeat (first | (simp (maxDischargeDepth := 9) only [RA, Nat.reduceEqDiff, Nat.reduceLT, Nat.reduceLeDiff, Nat.reduceAdd, Nat.reduceSub, Nat.reduceMul, Nat.reduceDiv, Nat.reduceMod, Nat.reducePow, Nat.reduceBEq, Nat.reduceGT, reduceIte, start57 (q + 2), rep32, hps0, T3, T5, T22, T30, T38, T47, cv32_8 Try.underlying22 Try.underlying5]; done) | simp (maxDischargeDepth := 9) only [RA, Nat.reduceEqDiff, Nat.reduceLT, Nat.reduceLeDiff, Nat.reduceAdd, Nat.reduceSub, Nat.reduceMul, Nat.reduceDiv, Nat.reduceMod, Nat.reducePow, Nat.reduceBEq, Nat.reduceGT, reduceIte, start57 (q + 2), rep32, hps0, T3, T5, T22, T30, T38, T47, cv32_8 Try.underlying22 Try.underlying5] | simp (disch := first | assumption | omega) only [RV, start57 (q + 2), rep32, hps0, T3, T5, T22, T30, T38, T47, cv32_8 Try.underlying22 Try.underlying5])) <;> rfl)))
    | (apply R_cond
       · (simp only [RE, Nat.reduceEqDiff, Nat.reduceLT, Nat.reduceLeDiff, Nat.reduceBEq, reduceIte, start57 (q + 2), rep32, hps0, T3, T5, T22, T30, T38, T47, cv32_8 Try.underlying22 Try.underlying5] <;> rfl))
    | (apply R_grd
       · (simp only [yieldedA, RY, Nat.reduceEqDiff, reduceIte, start57 (q + 2), rep32, hps0, T3, T5, T22, T30, T38, T47, cv32_8 Try.underlying22 Try.underlying5] <;> rfl)))
  refine W_loopK [2, 3, 4] [h.nx] (fun k e2 h2 => e2 5 = iv (64 * k) ∧ h2.obj h1.nx = some (.row .rw 1 (b32 (stAt (padS b) k).l)) ∧ Fr h1.nx h1 h2) (padN b.length / 64) (by omega) ?_ ?_ ?_
  · refine ⟨by (try simp only [List.map_cons, List.map_nil, RH, Nat.reduceAdd, Nat.reduceEqDiff, reduceIte, ev_tmp, ev_const, lit_iv, lit_w8, lit_w32, lit_w64, envOf0, envOf1, envOf2, envOf3, envOf4, envOf5, T3, T5, T22, T30, T38, T47, cv32_8 Try.underlying22 Try.underlying5]), ?_, by (repeat (first | assumption | exact Fr.refl _ _ | refine Fr.new ?_ ?_ _ _ _ | refine Fr.put ?_ ?_ _ | omega | (simp only [RH]; omega)))⟩
    have e0 : stAt (padS b) 0 = start := by unfold stAt; rfl
    (try simp only [List.map_cons, List.map_nil, RH, Nat.reduceAdd, Nat.reduceEqDiff, reduceIte, ev_tmp, ev_const, lit_iv, lit_w8, lit_w32, lit_w64, envOf0, envOf1, envOf2, envOf3, envOf4, envOf5, e0, T3, T5, T22, T30, T38, T47, cv32_8 Try.underlying22 Try.underlying5])
  · intro k hk e2 h2 hK hO hN ⟨j5, o2, F2⟩
    simp only [List.map_cons, List.map_nil, List.cons.injEq, and_true, RH, Nat.reduceAdd, Nat.reduceEqDiff, reduceIte, envOf0, envOf1, envOf2, envOf3, envOf4, envOf5, a0, o0] at hK
    obtain ⟨K0_2, K0_3, K0_4⟩ := hK
    simp only [List.map_cons, List.map_nil, List.cons.injEq, and_true, RH, Nat.reduceAdd, Nat.reduceEqDiff, reduceIte, envOf0, envOf1, envOf2, envOf3, envOf4, envOf5, a0, o0] at hO
    have O0_0 := hO
    try simp only [RH] at hN
    have hlt : 64 * k < (padS b).length := by omega
    have hsub : By h2 (subS 1 (64 * k) (64 * k + 64) none v1) (blk (padS b) k) := by
      have := By.sub (xs := padS b) (l := 64 * k) (hh := 64 * k + 64) (mx := none) (own1.sl.fr0 F2 : By h2 v1 (padS b)) (by omega) (by omega) (fun m hm => nomatch hm)
      rw [show 64 * k + 64 - 64 * k = 64 by omega] at this
      unfold blk; exact this
    have hs1 := S38lh (l := 64 * k) (hh := 64 * k + 64) (own1.sl.fr0 F2 : By h2 v1 (padS b)) fr_refl (by omega) (by omega)
    repeat (first
      | refine R_seq ?_ | refine R_region ?_ | refine R_nil ?_ | refine Q_seq ?_ | refine Q_norm ?_ | refine Q_seqr ?_ | refine Q_seqx ?_ | refine Q_bl ?_ | refine Q_blr ?_ | refine Q_blx ?_ | refine Q_blo rfl ?_ | refine R_block ?_ | refine R_skip ?_ | refine R_exit ?_ | refine R_ret ?_ | refine I_true ?_ | refine I_false ?_ | refine N_exit ?_ | refine N_ret ?_
      | (refine R_draw (by kernel_rfl) ?_)
      | ((first | apply R_op | apply R_op0)
         · (first | (simp (maxDischargeDepth := 9) only [RA, Nat.reduceEqDiff, Nat.reduceLT, Nat.reduceLeDiff, Nat.reduceAdd, Nat.reduceSub, Nat.reduceMul, Nat.reduceDiv, Nat.reduceMod, Nat.reducePow, Nat.reduceBEq, Nat.reduceGT, reduceIte, j5, S38len own1.sl, hlt, o2, hcs, hs1, T3, T5, T22, T30, T38, T47, cv32_8 Try.underlying22 Try.underlying5, K0_2, K0_3, K0_4, O0_0] <;> rfl) | ((repeat (first | (simp (maxDischargeDepth := 9) only [RA, Nat.reduceEqDiff, Nat.reduceLT, Nat.reduceLeDiff, Nat.reduceAdd, Nat.reduceSub, Nat.reduceMul, Nat.reduceDiv, Nat.reduceMod, Nat.reducePow, Nat.reduceBEq, Nat.reduceGT, reduceIte, j5, S38len own1.sl, hlt, o2, hcs, hs1, T3, T5, T22, T30, T38, T47, cv32_8 Try.underlying22 Try.underlying5, K0_2, K0_3, K0_4, O0_0]; done) | simp (maxDischargeDepth := 9) only [RA, Nat.reduceEqDiff, Nat.reduceLT, Nat.reduceLeDiff, Nat.reduceAdd, Nat.reduceSub, Nat.reduceMul, Nat.reduceDiv, Nat.reduceMod, Nat.reducePow, Nat.reduceBEq, Nat.reduceGT, reduceIte, j5, S38len own1.sl, hlt, o2, hcs, hs1, T3, T5, T22, T30, T38, T47, cv32_8 Try.underlying22 Try.underlying5, K0_2, K0_3, K0_4, O0_0] | simp (disch := first | assumption | omega) only [RV, j5, S38len own1.sl, hlt, o2, hcs, hs1, T3, T5, T22, T30, T38, T47, cv32_8 Try.underlying22 Try.underlying5, K0_2, K0_3, K0_4, O0_0])) <;> rfl)))
      | (apply R_cond
         · (simp only [RE, Nat.reduceEqDiff, Nat.reduceLT, Nat.reduceLeDiff, Nat.reduceBEq, reduceIte, j5, S38len own1.sl, hlt, o2, hcs, hs1, T3, T5, T22, T30, T38, T47, cv32_8 Try.underlying22 Try.underlying5, K0_2, K0_3, K0_4, O0_0] <;> rfl))
      | (apply R_grd
         · (simp only [yieldedA, RY, Nat.reduceEqDiff, reduceIte, j5, S38len own1.sl, hlt, o2, hcs, hs1, T3, T5, T22, T30, T38, T47, cv32_8 Try.underlying22 Try.underlying5, K0_2, K0_3, K0_4, O0_0] <;> rfl)))
    refine R_fn ?_ (step59 q _ (stAt (padS b) k) _ _ hsub) ?_
    · rfl
    intro v3 h3 ⟨hv3, F3⟩
    subst hv3
    have n3 := F3.1
    have w0 := F3.2 h.nx (by omega)
    have w1 := F3.2 h1.nx (by omega)
    rw [o2] at w1
    repeat (first
      | refine R_seq ?_ | refine R_region ?_ | refine R_nil ?_ | refine Q_seq ?_ | refine Q_norm ?_ | refine Q_seqr ?_ | refine Q_seqx ?_ | refine Q_bl ?_ | refine Q_blr ?_ | refine Q_blx ?_ | refine Q_blo rfl ?_ | refine R_block ?_ | refine R_skip ?_ | refine R_exit ?_ | refine R_ret ?_ | refine I_true ?_ | refine I_false ?_ | refine N_exit ?_ | refine N_ret ?_
      | ((first | apply R_op | apply R_op0)
         · (first | (simp (maxDischargeDepth := 9) only [RA, Nat.reduceEqDiff, Nat.reduceLT, Nat.reduceLeDiff, Nat.reduceAdd, Nat.reduceSub, Nat.reduceMul, Nat.reduceDiv, Nat.reduceMod, Nat.reducePow, Nat.reduceBEq, Nat.reduceGT, reduceIte, j5, w1, hps, T3, T5, T22, T30, T38, T47, cv32_8 Try.underlying22 Try.underlying5, K0_2, K0_3, K0_4, O0_0] <;> rfl) | ((repeat (first | (simp (maxDischargeDepth := 9) only [RA, Nat.reduceEqDiff, Nat.reduceLT, Nat.reduceLeDiff, Nat.reduceAdd, Nat.reduceSub, Nat.reduceMul, Nat.reduceDiv, Nat.reduceMod, Nat.reducePow, Nat.reduceBEq, Nat.reduceGT, reduceIte, j5, w1, hps, T3, T5, T22, T30, T38, T47, cv32_8 Try.underlying22 Try.underlying5, K0_2, K0_3, K0_4, O0_0]; done) | simp (maxDischargeDepth := 9) only [RA, Nat.reduceEqDiff, Nat.reduceLT, Nat.reduceLeDiff, Nat.reduceAdd, Nat.reduceSub, Nat.reduceMul, Nat.reduceDiv, Nat.reduceMod, Nat.reducePow, Nat.reduceBEq, Nat.reduceGT, reduceIte, j5, w1, hps, T3, T5, T22, T30, T38, T47, cv32_8 Try.underlying22 Try.underlying5, K0_2, K0_3, K0_4, O0_0] | simp (disch := first | assumption | omega) only [RV, j5, w1, hps, T3, T5, T22, T30, T38, T47, cv32_8 Try.underlying22 Try.underlying5, K0_2, K0_3, K0_4, O0_0])) <;> rfl)))
      | (apply R_cond
         · (simp only [RE, Nat.reduceEqDiff, Nat.reduceLT, Nat.reduceLeDiff, Nat.reduceBEq, reduceIte, j5, w1, hps, T3, T5, T22, T30, T38, T47, cv32_8 Try.underlying22 Try.underlying5, K0_2, K0_3, K0_4, O0_0] <;> rfl))
      | (apply R_grd
         · (simp only [yieldedA, RY, Nat.reduceEqDiff, reduceIte, j5, w1, hps, T3, T5, T22, T30, T38, T47, cv32_8 Try.underlying22 Try.underlying5, K0_2, K0_3, K0_4, O0_0] <;> rfl)))
    refine ⟨rfl, by first | rfl | simp only [List.map_cons, List.map_nil, RH, Nat.reduceAdd, Nat.reduceEqDiff, reduceIte, w0, a0, T3, T5, T22, T30, T38, T47, cv32_8 Try.underlying22 Try.underlying5, K0_2, K0_3, K0_4, O0_0], by first | rfl | simp only [List.map_cons, List.map_nil, RH, Nat.reduceAdd, Nat.reduceEqDiff, reduceIte, w0, a0, T3, T5, T22, T30, T38, T47, cv32_8 Try.underlying22 Try.underlying5, K0_2, K0_3, K0_4, O0_0], by first | (simp only [RH, w0, a0, T3, T5, T22, T30, T38, T47, cv32_8 Try.underlying22 Try.underlying5, K0_2, K0_3, K0_4, O0_0]; done) | ((try simp only [RH, w0, a0, T3, T5, T22, T30, T38, T47, cv32_8 Try.underlying22 Try.underlying5, K0_2, K0_3, K0_4, O0_0]); omega), ?_⟩
    refine ⟨?_, ?_, ?_⟩
    · (try simp only [List.map_cons, List.map_nil, RH, Nat.reduceAdd, Nat.reduceEqDiff, reduceIte, ev_tmp, ev_const, lit_iv, lit_w8, lit_w32, lit_w64, envOf0, envOf1, envOf2, envOf3, envOf4, envOf5, T3, T5, T22, T30, T38, T47, cv32_8 Try.underlying22 Try.underlying5, K0_2, K0_3, K0_4, O0_0])
      rw [show 64 * k + 64 = 64 * (k + 1) by omega]
    · (try simp only [List.map_cons, List.map_nil, RH, Nat.reduceAdd, Nat.reduceEqDiff, reduceIte, ev_tmp, ev_const, lit_iv, lit_w8, lit_w32, lit_w64, envOf0, envOf1, envOf2, envOf3, envOf4, envOf5, T3, T5, T22, T30, T38, T47, cv32_8 Try.underlying22 Try.underlying5, K0_2, K0_3, K0_4, O0_0])
      have e1 : stAt (padS b) (k + 1) = shaStep (stAt (padS b) k) (blk (padS b) k) := by
        conv => lhs; unfold stAt
      rw [e1]
    · exact (F2.trans (F3.le F2.1)).put (Nat.le_refl _) _
  · intro e2 h2 hK hO hN ⟨j5, o2, F2⟩
    simp only [List.map_cons, List.map_nil, List.cons.injEq, and_true, RH, Nat.reduceAdd, Nat.reduceEqDiff, reduceIte, envOf0, envOf1, envOf2, envOf3, envOf4, envOf5, a0, o0] at hK
    obtain ⟨K0_2, K0_3, K0_4⟩ := hK
    simp only [List.map_cons, List.map_nil, List.cons.injEq, and_true, RH, Nat.reduceAdd, Nat.reduceEqDiff, reduceIte, envOf0, envOf1, envOf2, envOf3, envOf4, envOf5, a0, o0] at hO
    have O0_0 := hO
    try simp only [RH] at hN
    have hlt : ¬ 64 * (padN b.length / 64) < (padS b).length := by omega
    repeat (first
      | refine R_seq ?_ | refine R_region ?_ | refine R_nil ?_ | refine Q_seq ?_ | refine Q_norm ?_ | refine Q_seqr ?_ | refine Q_seqx ?_ | refine Q_bl ?_ | refine Q_blr ?_ | refine Q_blx ?_ | refine Q_blo rfl ?_ | refine R_block ?_ | refine R_skip ?_ | refine R_exit ?_ | refine R_ret ?_ | refine I_true ?_ | refine I_false ?_ | refine N_exit ?_ | refine N_ret ?_
      | (refine R_draw (by kernel_rfl) ?_)
      | ((first | apply R_op | apply R_op0)
         · (first | (simp (maxDischargeDepth := 9) only [RA, Nat.reduceEqDiff, Nat.reduceLT, Nat.reduceLeDiff, Nat.reduceAdd, Nat.reduceSub, Nat.reduceMul, Nat.reduceDiv, Nat.reduceMod, Nat.reducePow, Nat.reduceBEq, Nat.reduceGT, reduceIte, j5, S38len own1.sl, hlt, T3, T5, T22, T30, T38, T47, cv32_8 Try.underlying22 Try.underlying5, K0_2, K0_3, K0_4, O0_0] <;> rfl) | ((repeat (first | (simp (maxDischargeDepth := 9) only [RA, Nat.reduceEqDiff, Nat.reduceLT, Nat.reduceLeDiff, Nat.reduceAdd, Nat.reduceSub, Nat.reduceMul, Nat.reduceDiv, Nat.reduceMod, Nat.reducePow, Nat.reduceBEq, Nat.reduceGT, reduceIte, j5, S38len own1.sl, hlt, T3, T5, T22, T30, T38, T47, cv32_8 Try.underlying22 Try.underlying5, K0_2, K0_3, K0_4, O0_0]; done) | simp (maxDischargeDepth := 9) only [RA, Nat.reduceEqDiff, Nat.reduceLT, Nat.reduceLeDiff, Nat.reduceAdd, Nat.reduceSub, Nat.reduceMul, Nat.reduceDiv, Nat.reduceMod, Nat.reducePow, Nat.reduceBEq, Nat.reduceGT, reduceIte, j5, S38len own1.sl, hlt, T3, T5, T22, T30, T38, T47, cv32_8 Try.underlying22 Try.underlying5, K0_2, K0_3, K0_4, O0_0] | simp (disch := first | assumption | omega) only [RV, j5, S38len own1.sl, hlt, T3, T5, T22, T30, T38, T47, cv32_8 Try.underlying22 Try.underlying5, K0_2, K0_3, K0_4, O0_0])) <;> rfl)))
      | (apply R_cond
         · (simp only [RE, Nat.reduceEqDiff, Nat.reduceLT, Nat.reduceLeDiff, Nat.reduceBEq, reduceIte, j5, S38len own1.sl, hlt, T3, T5, T22, T30, T38, T47, cv32_8 Try.underlying22 Try.underlying5, K0_2, K0_3, K0_4, O0_0] <;> rfl))
      | (apply R_grd
         · (simp only [yieldedA, RY, Nat.reduceEqDiff, reduceIte, j5, S38len own1.sl, hlt, T3, T5, T22, T30, T38, T47, cv32_8 Try.underlying22 Try.underlying5, K0_2, K0_3, K0_4, O0_0] <;> rfl)))
    have c0 : (h.nx = h2.nx) = False := eq_false (by omega)
    have c1 : (h1.nx = h2.nx) = False := eq_false (by omega)
    have hsum : sumS b = filled (outB (stAt (padS b) (padN b.length / 64))) 0#8 32 32 := by rw [outS_eq]; rfl
    generalize stAt (padS b) (padN b.length / 64) = sF at o2 hsum
    refine W_loopK [2, 4, 6] [h.nx, h1.nx] (fun i e3 h3 => e3 7 = iv i ∧ h3.obj h2.nx = some (.row .rw 1 (b8 (filled (outB sF) 0#8 32 i))) ∧ Fr h2.nx h2 h3) 32 (by decide) ?_ ?_ ?_
    · refine ⟨by (try simp only [List.map_cons, List.map_nil, RH, Nat.reduceAdd, Nat.reduceEqDiff, reduceIte, ev_tmp, ev_const, lit_iv, lit_w8, lit_w32, lit_w64, envOf0, envOf1, envOf2, envOf3, envOf4, envOf5, T3, T5, T22, T30, T38, T47, cv32_8 Try.underlying22 Try.underlying5, K0_2, K0_3, K0_4, O0_0]), ?_, by (repeat (first | assumption | exact Fr.refl _ _ | refine Fr.new ?_ ?_ _ _ _ | refine Fr.put ?_ ?_ _ | omega | (simp only [RH]; omega)))⟩
      (try simp only [List.map_cons, List.map_nil, RH, Nat.reduceAdd, Nat.reduceEqDiff, reduceIte, ev_tmp, ev_const, lit_iv, lit_w8, lit_w32, lit_w64, envOf0, envOf1, envOf2, envOf3, envOf4, envOf5, rep8, T3, T5, T22, T30, T38, T47, cv32_8 Try.underlying22 Try.underlying5, K0_2, K0_3, K0_4, O0_0])
      unfold filled; rfl
    · intro i hi e3 h3 hK hO hN ⟨j7, o3, F3⟩
      simp only [List.map_cons, List.map_nil, List.cons.injEq, and_true, RH, Nat.reduceAdd, Nat.reduceEqDiff, reduceIte, envOf0, envOf1, envOf2, envOf3, envOf4, envOf5, c0, c1, o2, K0_2, K0_3, K0_4, O0_0] at hK
      obtain ⟨K1_2, K1_4, K1_6⟩ := hK
      simp only [List.map_cons, List.map_nil, List.cons.injEq, and_true, RH, Nat.reduceAdd, Nat.reduceEqDiff, reduceIte, envOf0, envOf1, envOf2, envOf3, envOf4, envOf5, c0, c1, o2, K0_2, K0_3, K0_4, O0_0] at hO
      obtain ⟨O1_0, O1_1⟩ := hO
      try simp only [RH] at hN
      have hfl : (filled (outB sF) 0#8 32 i).length = 32 := filled_length _ _ (by omega)
      have hsl := St.l_length sF
      have h4 : i / 4 < 8 := by omega
      repeat (first
        | refine R_seq ?_ | refine R_region ?_ | refine R_nil ?_ | refine Q_seq ?_ | refine Q_norm ?_ | refine Q_seqr ?_ | refine Q_seqx ?_ | refine Q_bl ?_ | refine Q_blr ?_ | refine Q_blx ?_ | refine Q_blo rfl ?_ | refine R_block ?_ | refine R_skip ?_ | refine R_exit ?_ | refine R_ret ?_ | refine I_true ?_ | refine I_false ?_ | refine N_exit ?_ | refine N_ret ?_
        | (refine R_draw (by kernel_rfl) ?_)
        | ((first | apply R_op | apply R_op0)
           · (first | (simp (maxDischargeDepth := 9) only [RA, Nat.reduceEqDiff, Nat.reduceLT, Nat.reduceLeDiff, Nat.reduceAdd, Nat.reduceSub, Nat.reduceMul, Nat.reduceDiv, Nat.reduceMod, Nat.reducePow, Nat.reduceBEq, Nat.reduceGT, reduceIte, j7, o3, hi, hfl, hsl, h4, T3, T5, T22, T30, T38, T47, cv32_8 Try.underlying22 Try.underlying5, K0_2, K0_3, K0_4, O0_0, K1_2, K1_4, K1_6, O1_0, O1_1] <;> rfl) | ((repeat (first | (simp (maxDischargeDepth := 9) only [RA, Nat.reduceEqDiff, Nat.reduceLT, Nat.reduceLeDiff, Nat.reduceAdd, Nat.reduceSub, Nat.reduceMul, Nat.reduceDiv, Nat.reduceMod, Nat.reducePow, Nat.reduceBEq, Nat.reduceGT, reduceIte, j7, o3, hi, hfl, hsl, h4, T3, T5, T22, T30, T38, T47, cv32_8 Try.underlying22 Try.underlying5, K0_2, K0_3, K0_4, O0_0, K1_2, K1_4, K1_6, O1_0, O1_1]; done) | simp (maxDischargeDepth := 9) only [RA, Nat.reduceEqDiff, Nat.reduceLT, Nat.reduceLeDiff, Nat.reduceAdd, Nat.reduceSub, Nat.reduceMul, Nat.reduceDiv, Nat.reduceMod, Nat.reducePow, Nat.reduceBEq, Nat.reduceGT, reduceIte, j7, o3, hi, hfl, hsl, h4, T3, T5, T22, T30, T38, T47, cv32_8 Try.underlying22 Try.underlying5, K0_2, K0_3, K0_4, O0_0, K1_2, K1_4, K1_6, O1_0, O1_1] | simp (disch := first | assumption | omega) only [RV, j7, o3, hi, hfl, hsl, h4, T3, T5, T22, T30, T38, T47, cv32_8 Try.underlying22 Try.underlying5, K0_2, K0_3, K0_4, O0_0, K1_2, K1_4, K1_6, O1_0, O1_1])) <;> rfl)))
        | (apply R_cond
           · (simp only [RE, Nat.reduceEqDiff, Nat.reduceLT, Nat.reduceLeDiff, Nat.reduceBEq, reduceIte, j7, o3, hi, hfl, hsl, h4, T3, T5, T22, T30, T38, T47, cv32_8 Try.underlying22 Try.underlying5, K0_2, K0_3, K0_4, O0_0, K1_2, K1_4, K1_6, O1_0, O1_1] <;> rfl))
        | (apply R_grd
           · (simp only [yieldedA, RY, Nat.reduceEqDiff, reduceIte, j7, o3, hi, hfl, hsl, h4, T3, T5, T22, T30, T38, T47, cv32_8 Try.underlying22 Try.underlying5, K0_2, K0_3, K0_4, O0_0, K1_2, K1_4, K1_6, O1_0, O1_1] <;> rfl)))
      refine ⟨rfl, by first | rfl | simp only [List.map_cons, List.map_nil, RH, Nat.reduceAdd, Nat.reduceEqDiff, reduceIte, c0, c1, T3, T5, T22, T30, T38, T47, cv32_8 Try.underlying22 Try.underlying5, K0_2, K0_3, K0_4, O0_0, K1_2, K1_4, K1_6, O1_0, O1_1], by first | rfl | simp only [List.map_cons, List.map_nil, RH, Nat.reduceAdd, Nat.reduceEqDiff, reduceIte, c0, c1, T3, T5, T22, T30, T38, T47, cv32_8 Try.underlying22 Try.underlying5, K0_2, K0_3, K0_4, O0_0, K1_2, K1_4, K1_6, O1_0, O1_1], by first | (simp only [RH, c0, c1, T3, T5, T22, T30, T38, T47, cv32_8 Try.underlying22 Try.underlying5, K0_2, K0_3, K0_4, O0_0, K1_2, K1_4, K1_6, O1_0, O1_1]; done) | ((try simp only [RH, c0, c1, T3, T5, T22, T30, T38, T47, cv32_8 Try.underlying22 Try.underlying5, K0_2, K0_3, K0_4, O0_0, K1_2, K1_4, K1_6, O1_0, O1_1]); omega), ?_⟩
      refine ⟨by (try simp only [List.map_cons, List.map_nil, RH, Nat.reduceAdd, Nat.reduceEqDiff, reduceIte, ev_tmp, ev_const, lit_iv, lit_w8, lit_w32, lit_w64, envOf0, envOf1, envOf2, envOf3, envOf4, envOf5, T3, T5, T22, T30, T38, T47, cv32_8 Try.underlying22 Try.underlying5, K0_2, K0_3, K0_4, O0_0, K1_2, K1_4, K1_6, O1_0, O1_1]), ?_, by (repeat (first | assumption | exact Fr.refl _ _ | refine Fr.new ?_ ?_ _ _ _ | refine Fr.put ?_ ?_ _ | omega | (simp only [RH]; omega)))⟩
      (try simp only [List.map_cons, List.map_nil, RH, Nat.reduceAdd, Nat.reduceEqDiff, reduceIte, ev_tmp, ev_const, lit_iv, lit_w8, lit_w32, lit_w64, envOf0, envOf1, envOf2, envOf3, envOf4, envOf5, T3, T5, T22, T30, T38, T47, cv32_8 Try.underlying22 Try.underlying5, K0_2, K0_3, K0_4, O0_0, K1_2, K1_4, K1_6, O1_0, O1_1])
      rw [← filled_set _ _ hi]
      unfold outB
      rfl
    · intro e3 h3 hK hO hN ⟨j7, o3, F3⟩
      simp only [List.map_cons, List.map_nil, List.cons.injEq, and_true, RH, Nat.reduceAdd, Nat.reduceEqDiff, reduceIte, envOf0, envOf1, envOf2, envOf3, envOf4, envOf5, c0, c1, o2, K0_2, K0_3, K0_4, O0_0] at hK
      obtain ⟨K1_2, K1_4, K1_6⟩ := hK
      simp only [List.map_cons, List.map_nil, List.cons.injEq, and_true, RH, Nat.reduceAdd, Nat.reduceEqDiff, reduceIte, envOf0, envOf1, envOf2, envOf3, envOf4, envOf5, c0, c1, o2, K0_2, K0_3, K0_4, O0_0] at hO
      obtain ⟨O1_0, O1_1⟩ := hO
      try simp only [RH] at hN
      rw [← hsum] at o3
      have hsl : (sumS b).length = 32 := by rw [hsum]; exact filled_length _ _ (by omega)
      have hc8 := fun (kd : Kind) (es : Nat) => cut8 (k := kd) (es := es) hsl
      have hp8 := fun (H : Heap) (p : Nat) => puts8 (h := H) (b := p) (es := 1) hsl (List.length_replicate (n := 32) (a := 0#8))
      repeat (first
        | refine R_seq ?_ | refine R_region ?_ | refine R_nil ?_ | refine Q_seq ?_ | refine Q_norm ?_ | refine Q_seqr ?_ | refine Q_seqx ?_ | refine Q_bl ?_ | refine Q_blr ?_ | refine Q_blx ?_ | refine Q_blo rfl ?_ | refine R_block ?_ | refine R_skip ?_ | refine R_exit ?_ | refine R_ret ?_ | refine I_true ?_ | refine I_false ?_ | refine N_exit ?_ | refine N_ret ?_
        | ((first | apply R_op | apply R_op0)
           · (first | (simp (maxDischargeDepth := 9) only [RA, Nat.reduceEqDiff, Nat.reduceLT, Nat.reduceLeDiff, Nat.reduceAdd, Nat.reduceSub, Nat.reduceMul, Nat.reduceDiv, Nat.reduceMod, Nat.reducePow, Nat.reduceBEq, Nat.reduceGT, reduceIte, j7, o3, hc8, hp8, rep8, T3, T5, T22, T30, T38, T47, cv32_8 Try.underlying22 Try.underlying5, K0_2, K0_3, K0_4, O0_0, K1_2, K1_4, K1_6, O1_0, O1_1] <;> rfl) | ((repeat (first | (simp (maxDischargeDepth := 9) only [RA, Nat.reduceEqDiff, Nat.reduceLT, Nat.reduceLeDiff, Nat.reduceAdd, Nat.reduceSub, Nat.reduceMul, Nat.reduceDiv, Nat.reduceMod, Nat.reducePow, Nat.reduceBEq, Nat.reduceGT, reduceIte, j7, o3, hc8, hp8, rep8, T3, T5, T22, T30, T38, T47, cv32_8 Try.underlying22 Try.underlying5, K0_2, K0_3, K0_4, O0_0, K1_2, K1_4, K1_6, O1_0, O1_1]; done) | simp (maxDischargeDepth := 9) only [RA, Nat.reduceEqDiff, Nat.reduceLT, Nat.reduceLeDiff, Nat.reduceAdd, Nat.reduceSub, Nat.reduceMul, Nat.reduceDiv, Nat.reduceMod, Nat.reducePow, Nat.reduceBEq, Nat.reduceGT, reduceIte, j7, o3, hc8, hp8, rep8, T3, T5, T22, T30, T38, T47, cv32_8 Try.underlying22 Try.underlying5, K0_2, K0_3, K0_4, O0_0, K1_2, K1_4, K1_6, O1_0, O1_1] | simp (disch := first | assumption | omega) only [RV, j7, o3, hc8, hp8, rep8, T3, T5, T22, T30, T38, T47, cv32_8 Try.underlying22 Try.underlying5, K0_2, K0_3, K0_4, O0_0, K1_2, K1_4, K1_6, O1_0, O1_1])) <;> rfl)))
        | (apply R_cond
           · (simp only [RE, Nat.reduceEqDiff, Nat.reduceLT, Nat.reduceLeDiff, Nat.reduceBEq, reduceIte, j7, o3, hc8, hp8, rep8, T3, T5, T22, T30, T38, T47, cv32_8 Try.underlying22 Try.underlying5, K0_2, K0_3, K0_4, O0_0, K1_2, K1_4, K1_6, O1_0, O1_1] <;> rfl))
        | (apply R_grd
           · (simp only [yieldedA, RY, Nat.reduceEqDiff, reduceIte, j7, o3, hc8, hp8, rep8, T3, T5, T22, T30, T38, T47, cv32_8 Try.underlying22 Try.underlying5, K0_2, K0_3, K0_4, O0_0, K1_2, K1_4, K1_6, O1_0, O1_1] <;> rfl)))
      first | refine ⟨.inr rfl, ?_⟩ | refine ⟨.inl rfl, ?_⟩
      simp only [evResultList, evResult, K1_2, ld30, RH, upd_apply, Nat.reduceEqDiff, reduceIte, hc8, Option.map_some]
      refine ⟨_, rfl, rfl, Fr.put ?_ (Nat.le_refl _) _⟩
      exact ((Fr.new (.refl _ _) (Nat.le_refl _) _ _ _).trans (F1.le (by omega))).trans ((F2.le (by omega)).trans (F3.le (by omega)))
end Go.Proofs.Ytfehhihllenjiaa
