/- The digest: what is filled up. -/
import Derived.Test.YtfehhihllenjiaaHe
import Derived.Test.YtfehhihllenjiaaPc
set_option linter.all false
namespace Go.Proofs.Ytfehhihllenjiaa
open Go.Proofs
attribute [local irreducible] evOps iter evD evF evC evLoad evStore evAlloc evIndexAddr evIndex evLenB evBox evBin evUn evConvert evExtract evSlice evAppend evCopy evNil evBuild evMakeSlice evBuildSlice evBuiltin Program.underlying
attribute [local irreducible] padJ padS padN
theorem inl54 : inlOf Try.prog 54 = true := by kernel_rfl
theorem iso54 : isoOf Try.prog 54 = false := by kernel_rfl
set_option maxRecDepth 20000 in
set_option maxHeartbeats 8000000 in
theorem pad54 (q : Nat) (h : Heap) (v : Value) (b : List (BitVec 8)) (hb : By h v b) (hl : b.length ≤ 2147483648) :
    ∃ v' h', fcall Try.prog (q + 1) (.func (.func 54) #[] #[]) [v] h = some (.ok v', h') ∧ OwB h.nx h' v' (padS b) ∧ Fr h.nx h h' := by
  rw [fcall_inl inl54 iso54, evF_eq Try.func54 rfl]
  apply evEnd_of_W
  simp only [Try.f54]
  have hN : (b.length + 9 + 63) / 64 * 64 = padN b.length := by unfold padN; rfl
  have hNge := padN_ge b.length
  have hNle : padN b.length ≤ b.length + 72 := by unfold padN; omega
  repeat (first
    | refine R_seq ?_ | refine R_region ?_ | refine R_nil ?_ | refine Q_seq ?_ | refine Q_norm ?_ | refine Q_seqr ?_ | refine Q_seqx ?_ | refine Q_bl ?_ | refine Q_blr ?_ | refine Q_blx ?_ | refine Q_blo rfl ?_ | refine R_block ?_ | refine R_skip ?_ | refine R_exit ?_ | refine R_ret ?_ | refine I_true ?_ | refine I_false ?_ | refine N_exit ?_ | refine N_ret ?_
    | (refine R_draw (by kernel_rfl) ?_)
    | ((first | apply R_op | apply R_op0)
       · (first | (simp (maxDischargeDepth := 9) only [RA, Nat.reduceEqDiff, Nat.reduceLT, Nat.reduceLeDiff, Nat.reduceAdd, Nat.reduceSub, Nat.reduceMul, Nat.reduceDiv, Nat.reduceMod, Nat.reducePow, Nat.reduceBEq, Nat.reduceGT, reduceIte, S38len hb, hN, T3, T5, T38, T93, T94, cvi_64 Try.underlying3 Try.underlying93, cv64_8 Try.underlying93 Try.underlying5] <;> rfl) | ((repeat (first | (simp (maxDischargeDepth := 9) only [RA, Nat.reduceEqDiff, Nat.reduceLT, Nat.reduceLeDiff, Nat.reduceAdd, Nat.reduceSub, Nat.reduceMul, Nat.reduceDiv, Nat.reduceMod, Nat.reducePow, Nat.reduceBEq, Nat.reduceGT, reduceIte, S38len hb, hN, T3, T5, T38, T93, T94, cvi_64 Try.underlying3 Try.underlying93, cv64_8 Try.underlying93 Try.underlying5]; done) | simp (maxDischargeDepth := 9) only [RA, Nat.reduceEqDiff, Nat.reduceLT, Nat.reduceLeDiff, Nat.reduceAdd, Nat.reduceSub, Nat.reduceMul, Nat.reduceDiv, Nat.reduceMod, Nat.reducePow, Nat.reduceBEq, Nat.reduceGT, reduceIte, S38len hb, hN, T3, T5, T38, T93, T94, cvi_64 Try.underlying3 Try.underlying93, cv64_8 Try.underlying93 Try.underlying5] | simp (disch := first | assumption | omega) only [RV, S38len hb, hN, T3, T5, T38, T93, T94, cvi_64 Try.underlying3 Try.underlying93, cv64_8 Try.underlying93 Try.underlying5])) <;> rfl)))
    | (apply R_cond
       · (simp only [RE, Nat.reduceEqDiff, Nat.reduceLT, Nat.reduceLeDiff, Nat.reduceBEq, reduceIte, S38len hb, hN, T3, T5, T38, T93, T94, cvi_64 Try.underlying3 Try.underlying93, cv64_8 Try.underlying93 Try.underlying5] <;> rfl))
    | (apply R_grd
       · (simp only [yieldedA, RY, Nat.reduceEqDiff, reduceIte, S38len hb, hN, T3, T5, T38, T93, T94, cvi_64 Try.underlying3 Try.underlying93, cv64_8 Try.underlying93 Try.underlying5] <;> rfl)))
  refine R_mk E38 (n := padN b.length) (m := padN b.length) ?_ ?_ (Nat.le_refl _) (by omega) rfl ?_
  · first | rfl | (first | rw [ev_tmp] | rw [ev_const] | skip) <;> simp only [upd_apply, Nat.reduceEqDiff, if_true, if_false, reduceIte, lit_iv, lit_w8, hN]
  · first | rfl | (first | rw [ev_tmp] | rw [ev_const] | skip) <;> simp only [upd_apply, Nat.reduceEqDiff, if_true, if_false, reduceIte, lit_iv, lit_w8, hN]
  intro v0 h0 own0 f0 n0
  repeat (first
    | refine R_seq ?_ | refine R_region ?_ | refine R_nil ?_ | refine Q_seq ?_ | refine Q_norm ?_ | refine Q_seqr ?_ | refine Q_seqx ?_ | refine Q_bl ?_ | refine Q_blr ?_ | refine Q_blx ?_ | refine Q_blo rfl ?_ | refine R_block ?_ | refine R_skip ?_ | refine R_exit ?_ | refine R_ret ?_ | refine I_true ?_ | refine I_false ?_ | refine N_exit ?_ | refine N_ret ?_
    | ((first | apply R_op | apply R_op0)
       · (first | (simp (maxDischargeDepth := 9) only [RA, Nat.reduceEqDiff, Nat.reduceLT, Nat.reduceLeDiff, Nat.reduceAdd, Nat.reduceSub, Nat.reduceMul, Nat.reduceDiv, Nat.reduceMod, Nat.reducePow, Nat.reduceBEq, Nat.reduceGT, reduceIte, T3, T5, T38, T93, T94, cvi_64 Try.underlying3 Try.underlying93, cv64_8 Try.underlying93 Try.underlying5] <;> rfl) | ((repeat (first | (simp (maxDischargeDepth := 9) only [RA, Nat.reduceEqDiff, Nat.reduceLT, Nat.reduceLeDiff, Nat.reduceAdd, Nat.reduceSub, Nat.reduceMul, Nat.reduceDiv, Nat.reduceMod, Nat.reducePow, Nat.reduceBEq, Nat.reduceGT, reduceIte, T3, T5, T38, T93, T94, cvi_64 Try.underlying3 Try.underlying93, cv64_8 Try.underlying93 Try.underlying5]; done) | simp (maxDischargeDepth := 9) only [RA, Nat.reduceEqDiff, Nat.reduceLT, Nat.reduceLeDiff, Nat.reduceAdd, Nat.reduceSub, Nat.reduceMul, Nat.reduceDiv, Nat.reduceMod, Nat.reducePow, Nat.reduceBEq, Nat.reduceGT, reduceIte, T3, T5, T38, T93, T94, cvi_64 Try.underlying3 Try.underlying93, cv64_8 Try.underlying93 Try.underlying5] | simp (disch := first | assumption | omega) only [RV, T3, T5, T38, T93, T94, cvi_64 Try.underlying3 Try.underlying93, cv64_8 Try.underlying93 Try.underlying5])) <;> rfl)))
    | (apply R_cond
       · (simp only [RE, Nat.reduceEqDiff, Nat.reduceLT, Nat.reduceLeDiff, Nat.reduceBEq, reduceIte, T3, T5, T38, T93, T94, cvi_64 Try.underlying3 Try.underlying93, cv64_8 Try.underlying93 Try.underlying5] <;> rfl))
    | (apply R_grd
       · (simp only [yieldedA, RY, Nat.reduceEqDiff, reduceIte, T3, T5, T38, T93, T94, cvi_64 Try.underlying3 Try.underlying93, cv64_8 Try.underlying93 Try.underlying5] <;> rfl)))
  refine R_cp E38 (v := v0) (w := v) ?_ ?_ own0 (hb.fr0 f0) (by rw [List.length_replicate]; omega) ?_
  · first | rfl | (first | rw [ev_tmp] | rw [ev_const] | skip) <;> simp only [upd_apply, Nat.reduceEqDiff, if_true, if_false, reduceIte, lit_iv, lit_w8]
  · first | rfl | (first | rw [ev_tmp] | rw [ev_const] | skip) <;> simp only [upd_apply, Nat.reduceEqDiff, if_true, if_false, reduceIte, lit_iv, lit_w8]
  intro h1 own1 wt1 n1
  have hlen1 : (b ++ (List.replicate (padN b.length) 0#8).drop b.length).length = padN b.length := by simp; omega
  have hb1 : b.length < (b ++ (List.replicate (padN b.length) 0#8).drop b.length).length := by omega
  have e20 := S38ia own1.sl hb1
  repeat (first
    | refine R_seq ?_ | refine R_region ?_ | refine R_nil ?_ | refine Q_seq ?_ | refine Q_norm ?_ | refine Q_seqr ?_ | refine Q_seqx ?_ | refine Q_bl ?_ | refine Q_blr ?_ | refine Q_blx ?_ | refine Q_blo rfl ?_ | refine R_block ?_ | refine R_skip ?_ | refine R_exit ?_ | refine R_ret ?_ | refine I_true ?_ | refine I_false ?_ | refine N_exit ?_ | refine N_ret ?_
    | ((first | apply R_op | apply R_op0)
       · (first | (simp (maxDischargeDepth := 9) only [RA, Nat.reduceEqDiff, Nat.reduceLT, Nat.reduceLeDiff, Nat.reduceAdd, Nat.reduceSub, Nat.reduceMul, Nat.reduceDiv, Nat.reduceMod, Nat.reducePow, Nat.reduceBEq, Nat.reduceGT, reduceIte, e20, T3, T5, T38, T93, T94, cvi_64 Try.underlying3 Try.underlying93, cv64_8 Try.underlying93 Try.underlying5] <;> rfl) | ((repeat (first | (simp (maxDischargeDepth := 9) only [RA, Nat.reduceEqDiff, Nat.reduceLT, Nat.reduceLeDiff, Nat.reduceAdd, Nat.reduceSub, Nat.reduceMul, Nat.reduceDiv, Nat.reduceMod, Nat.reducePow, Nat.reduceBEq, Nat.reduceGT, reduceIte, e20, T3, T5, T38, T93, T94, cvi_64 Try.underlying3 Try.underlying93, cv64_8 Try.underlying93 Try.underlying5]; done) | simp (maxDischargeDepth := 9) only [RA, Nat.reduceEqDiff, Nat.reduceLT, Nat.reduceLeDiff, Nat.reduceAdd, Nat.reduceSub, Nat.reduceMul, Nat.reduceDiv, Nat.reduceMod, Nat.reducePow, Nat.reduceBEq, Nat.reduceGT, reduceIte, e20, T3, T5, T38, T93, T94, cvi_64 Try.underlying3 Try.underlying93, cv64_8 Try.underlying93 Try.underlying5] | simp (disch := first | assumption | omega) only [RV, e20, T3, T5, T38, T93, T94, cvi_64 Try.underlying3 Try.underlying93, cv64_8 Try.underlying93 Try.underlying5])) <;> rfl)))
    | (apply R_cond
       · (simp only [RE, Nat.reduceEqDiff, Nat.reduceLT, Nat.reduceLeDiff, Nat.reduceBEq, reduceIte, e20, T3, T5, T38, T93, T94, cvi_64 Try.underlying3 Try.underlying93, cv64_8 Try.underlying93 Try.underlying5] <;> rfl))
    | (apply R_grd
       · (simp only [yieldedA, RY, Nat.reduceEqDiff, reduceIte, e20, T3, T5, T38, T93, T94, cvi_64 Try.underlying3 Try.underlying93, cv64_8 Try.underlying93 Try.underlying5] <;> rfl)))
  refine R_st (v := v0) (x := 128#8) (i := b.length) inf5 rfl ?_ ?_ own1 hb1 ?_
  · first | rfl | (first | rw [ev_tmp] | rw [ev_const] | skip) <;> simp only [upd_apply, Nat.reduceEqDiff, if_true, if_false, reduceIte, lit_iv, lit_w8]
  · first | rfl | (first | rw [ev_tmp] | rw [ev_const] | skip) <;> simp only [upd_apply, Nat.reduceEqDiff, if_true, if_false, reduceIte, lit_iv, lit_w8, lit_w8]
  intro h2 own2 wt2 n2
  rw [padJ_zero] at own2
  have F2 : Fr h.nx h h2 := (f0.trans (wt1.owFr (by have := f0.1; omega) own0)).trans (wt2.owFr (by have := f0.1; have := wt1.nx; omega) own1)
  have hlenJ := padJ_length b 0
  have S2 := own2.sl
  have hl2 := S38len S2
  rw [hlenJ] at hl2
  have em : BitVec.ofNat 64 b.length <<< (3#64).toNat = BitVec.ofNat 64 (8 * b.length / 2 ^ (8 * 0)) := by
    apply BitVec.eq_of_toNat_eq
    simp [Nat.shiftLeft_eq]
    congr 1
    omega
  repeat (first
    | refine R_seq ?_ | refine R_region ?_ | refine R_nil ?_ | refine Q_seq ?_ | refine Q_norm ?_ | refine Q_seqr ?_ | refine Q_seqx ?_ | refine Q_bl ?_ | refine Q_blr ?_ | refine Q_blx ?_ | refine Q_blo rfl ?_ | refine R_block ?_ | refine R_skip ?_ | refine R_exit ?_ | refine R_ret ?_ | refine I_true ?_ | refine I_false ?_ | refine N_exit ?_ | refine N_ret ?_
    | ((first | apply R_op | apply R_op0)
       · (first | (simp (maxDischargeDepth := 9) only [RA, Nat.reduceEqDiff, Nat.reduceLT, Nat.reduceLeDiff, Nat.reduceAdd, Nat.reduceSub, Nat.reduceMul, Nat.reduceDiv, Nat.reduceMod, Nat.reducePow, Nat.reduceBEq, Nat.reduceGT, reduceIte, hl2, iv_sub (padN b.length) 1 (by omega) (by omega), em, T3, T5, T38, T93, T94, cvi_64 Try.underlying3 Try.underlying93, cv64_8 Try.underlying93 Try.underlying5] <;> rfl) | ((repeat (first | (simp (maxDischargeDepth := 9) only [RA, Nat.reduceEqDiff, Nat.reduceLT, Nat.reduceLeDiff, Nat.reduceAdd, Nat.reduceSub, Nat.reduceMul, Nat.reduceDiv, Nat.reduceMod, Nat.reducePow, Nat.reduceBEq, Nat.reduceGT, reduceIte, hl2, iv_sub (padN b.length) 1 (by omega) (by omega), em, T3, T5, T38, T93, T94, cvi_64 Try.underlying3 Try.underlying93, cv64_8 Try.underlying93 Try.underlying5]; done) | simp (maxDischargeDepth := 9) only [RA, Nat.reduceEqDiff, Nat.reduceLT, Nat.reduceLeDiff, Nat.reduceAdd, Nat.reduceSub, Nat.reduceMul, Nat.reduceDiv, Nat.reduceMod, Nat.reducePow, Nat.reduceBEq, Nat.reduceGT, reduceIte, hl2, iv_sub (padN b.length) 1 (by omega) (by omega), em, T3, T5, T38, T93, T94, cvi_64 Try.underlying3 Try.underlying93, cv64_8 Try.underlying93 Try.underlying5] | simp (disch := first | assumption | omega) only [RV, hl2, iv_sub (padN b.length) 1 (by omega) (by omega), em, T3, T5, T38, T93, T94, cvi_64 Try.underlying3 Try.underlying93, cv64_8 Try.underlying93 Try.underlying5])) <;> rfl)))
    | (apply R_cond
       · (simp only [RE, Nat.reduceEqDiff, Nat.reduceLT, Nat.reduceLeDiff, Nat.reduceBEq, reduceIte, hl2, iv_sub (padN b.length) 1 (by omega) (by omega), em, T3, T5, T38, T93, T94, cvi_64 Try.underlying3 Try.underlying93, cv64_8 Try.underlying93 Try.underlying5] <;> rfl))
    | (apply R_grd
       · (simp only [yieldedA, RY, Nat.reduceEqDiff, reduceIte, hl2, iv_sub (padN b.length) 1 (by omega) (by omega), em, T3, T5, T38, T93, T94, cvi_64 Try.underlying3 Try.underlying93, cv64_8 Try.underlying93 Try.underlying5] <;> rfl)))
  refine W_loopX [4] [] (fun k e3 h3 => e3 5 = iv (padN b.length - 1 - k) ∧ e3 6 = w64 (BitVec.ofNat 64 (8 * b.length / 2 ^ (8 * k))) ∧ OwB h.nx h3 v0 (padJ b k) ∧ Fr h.nx h h3) 8 (by decide) ?_ ?_ ?_
  · exact ⟨by (try simp only [List.map_cons, List.map_nil, RH, Nat.reduceAdd, Nat.reduceEqDiff, reduceIte, ev_tmp, ev_const, lit_iv, lit_w8, lit_w32, lit_w64, envOf0, envOf1, envOf2, envOf3, envOf4, envOf5, Nat.sub_zero, T3, T5, T38, T93, T94, cvi_64 Try.underlying3 Try.underlying93, cv64_8 Try.underlying93 Try.underlying5]), by (try simp only [List.map_cons, List.map_nil, RH, Nat.reduceAdd, Nat.reduceEqDiff, reduceIte, ev_tmp, ev_const, lit_iv, lit_w8, lit_w32, lit_w64, envOf0, envOf1, envOf2, envOf3, envOf4, envOf5, T3, T5, T38, T93, T94, cvi_64 Try.underlying3 Try.underlying93, cv64_8 Try.underlying93 Try.underlying5]), own2, F2⟩
  · intro k hk e3 h3 hK hO hN ⟨j5, j6, own3, F3⟩
    simp only [List.map_cons, List.map_nil, List.cons.injEq, and_true, RH, Nat.reduceAdd, Nat.reduceEqDiff, reduceIte, envOf0, envOf1, envOf2, envOf3, envOf4, envOf5] at hK
    have K0_4 := hK
    try simp only [RH] at hN
    have hm64 : 8 * b.length / 2 ^ (8 * k) < 2 ^ 64 := Nat.lt_of_le_of_lt (Nat.div_le_self _ _) (by omega)
    by_cases hz : 8 * b.length / 2 ^ (8 * k) = 0
    · refine W.mono ?_ (fun x e h hq => Or.inr hq)
      have hx : ¬ ((0#64).toNat < (BitVec.ofNat 64 0).toNat) := by decide
      rw [hz] at j6
      rw [padJ_end b (by omega) hz] at own3
      repeat (first
        | refine R_seq ?_ | refine R_region ?_ | refine R_nil ?_ | refine Q_seq ?_ | refine Q_norm ?_ | refine Q_seqr ?_ | refine Q_seqx ?_ | refine Q_bl ?_ | refine Q_blr ?_ | refine Q_blx ?_ | refine Q_blo rfl ?_ | refine R_block ?_ | refine R_skip ?_ | refine R_exit ?_ | refine R_ret ?_ | refine I_true ?_ | refine I_false ?_ | refine N_exit ?_ | refine N_ret ?_
        | (refine R_draw (by kernel_rfl) ?_)
        | ((first | apply R_op | apply R_op0)
           · (first | (simp (maxDischargeDepth := 9) only [RA, Nat.reduceEqDiff, Nat.reduceLT, Nat.reduceLeDiff, Nat.reduceAdd, Nat.reduceSub, Nat.reduceMul, Nat.reduceDiv, Nat.reduceMod, Nat.reducePow, Nat.reduceBEq, Nat.reduceGT, reduceIte, j5, j6, hx, T3, T5, T38, T93, T94, cvi_64 Try.underlying3 Try.underlying93, cv64_8 Try.underlying93 Try.underlying5, K0_4] <;> rfl) | ((repeat (first | (simp (maxDischargeDepth := 9) only [RA, Nat.reduceEqDiff, Nat.reduceLT, Nat.reduceLeDiff, Nat.reduceAdd, Nat.reduceSub, Nat.reduceMul, Nat.reduceDiv, Nat.reduceMod, Nat.reducePow, Nat.reduceBEq, Nat.reduceGT, reduceIte, j5, j6, hx, T3, T5, T38, T93, T94, cvi_64 Try.underlying3 Try.underlying93, cv64_8 Try.underlying93 Try.underlying5, K0_4]; done) | simp (maxDischargeDepth := 9) only [RA, Nat.reduceEqDiff, Nat.reduceLT, Nat.reduceLeDiff, Nat.reduceAdd, Nat.reduceSub, Nat.reduceMul, Nat.reduceDiv, Nat.reduceMod, Nat.reducePow, Nat.reduceBEq, Nat.reduceGT, reduceIte, j5, j6, hx, T3, T5, T38, T93, T94, cvi_64 Try.underlying3 Try.underlying93, cv64_8 Try.underlying93 Try.underlying5, K0_4] | simp (disch := first | assumption | omega) only [RV, j5, j6, hx, T3, T5, T38, T93, T94, cvi_64 Try.underlying3 Try.underlying93, cv64_8 Try.underlying93 Try.underlying5, K0_4])) <;> rfl)))
        | (apply R_cond
           · (simp only [RE, Nat.reduceEqDiff, Nat.reduceLT, Nat.reduceLeDiff, Nat.reduceBEq, reduceIte, j5, j6, hx, T3, T5, T38, T93, T94, cvi_64 Try.underlying3 Try.underlying93, cv64_8 Try.underlying93 Try.underlying5, K0_4] <;> rfl))
        | (apply R_grd
           · (simp only [yieldedA, RY, Nat.reduceEqDiff, reduceIte, j5, j6, hx, T3, T5, T38, T93, T94, cvi_64 Try.underlying3 Try.underlying93, cv64_8 Try.underlying93 Try.underlying5, K0_4] <;> rfl)))
      refine ⟨.inr rfl, _, rfl, ?_, F3⟩
      (try simp only [List.map_cons, List.map_nil, RH, Nat.reduceAdd, Nat.reduceEqDiff, reduceIte, ev_tmp, ev_const, lit_iv, lit_w8, lit_w32, lit_w64, envOf0, envOf1, envOf2, envOf3, envOf4, envOf5, packR, T3, T5, T38, T93, T94, cvi_64 Try.underlying3 Try.underlying93, cv64_8 Try.underlying93 Try.underlying5, K0_4])
      exact own3
    · refine W.mono ?_ (fun x e h hq => Or.inl hq)
      have hx : ((0#64).toNat < (BitVec.ofNat 64 (8 * b.length / 2 ^ (8 * k))).toNat) := by
        rw [show (0#64).toNat = 0 from rfl, BitVec.toNat_ofNat, Nat.mod_eq_of_lt hm64]
        exact Nat.pos_of_ne_zero hz
      have hi : padN b.length - 1 - k < (padJ b k).length := by rw [padJ_length]; omega
      have e37 := S38ia own3.sl hi
      repeat (first
        | refine R_seq ?_ | refine R_region ?_ | refine R_nil ?_ | refine Q_seq ?_ | refine Q_norm ?_ | refine Q_seqr ?_ | refine Q_seqx ?_ | refine Q_bl ?_ | refine Q_blr ?_ | refine Q_blx ?_ | refine Q_blo rfl ?_ | refine R_block ?_ | refine R_skip ?_ | refine R_exit ?_ | refine R_ret ?_ | refine I_true ?_ | refine I_false ?_ | refine N_exit ?_ | refine N_ret ?_
        | ((first | apply R_op | apply R_op0)
           · (first | (simp (maxDischargeDepth := 9) only [RA, Nat.reduceEqDiff, Nat.reduceLT, Nat.reduceLeDiff, Nat.reduceAdd, Nat.reduceSub, Nat.reduceMul, Nat.reduceDiv, Nat.reduceMod, Nat.reducePow, Nat.reduceBEq, Nat.reduceGT, reduceIte, j5, j6, hx, e37, cv64_8 Try.underlying93 Try.underlying5, T3, T5, T38, T93, T94, cvi_64 Try.underlying3 Try.underlying93, K0_4] <;> rfl) | ((repeat (first | (simp (maxDischargeDepth := 9) only [RA, Nat.reduceEqDiff, Nat.reduceLT, Nat.reduceLeDiff, Nat.reduceAdd, Nat.reduceSub, Nat.reduceMul, Nat.reduceDiv, Nat.reduceMod, Nat.reducePow, Nat.reduceBEq, Nat.reduceGT, reduceIte, j5, j6, hx, e37, cv64_8 Try.underlying93 Try.underlying5, T3, T5, T38, T93, T94, cvi_64 Try.underlying3 Try.underlying93, K0_4]; done) | simp (maxDischargeDepth := 9) only [RA, Nat.reduceEqDiff, Nat.reduceLT, Nat.reduceLeDiff, Nat.reduceAdd, Nat.reduceSub, Nat.reduceMul, Nat.reduceDiv, Nat.reduceMod, Nat.reducePow, Nat.reduceBEq, Nat.reduceGT, reduceIte, j5, j6, hx, e37, cv64_8 Try.underlying93 Try.underlying5, T3, T5, T38, T93, T94, cvi_64 Try.underlying3 Try.underlying93, K0_4] | simp (disch := first | assumption | omega) only [RV, j5, j6, hx, e37, cv64_8 Try.underlying93 Try.underlying5, T3, T5, T38, T93, T94, cvi_64 Try.underlying3 Try.underlying93, K0_4])) <;> rfl)))
        | (apply R_cond
           · (simp only [RE, Nat.reduceEqDiff, Nat.reduceLT, Nat.reduceLeDiff, Nat.reduceBEq, reduceIte, j5, j6, hx, e37, cv64_8 Try.underlying93 Try.underlying5, T3, T5, T38, T93, T94, cvi_64 Try.underlying3 Try.underlying93, K0_4] <;> rfl))
        | (apply R_grd
           · (simp only [yieldedA, RY, Nat.reduceEqDiff, reduceIte, j5, j6, hx, e37, cv64_8 Try.underlying93 Try.underlying5, T3, T5, T38, T93, T94, cvi_64 Try.underlying3 Try.underlying93, K0_4] <;> rfl)))
      refine R_st (v := v0) (x := (BitVec.ofNat 64 (8 * b.length / 2 ^ (8 * k))).setWidth 8) (i := padN b.length - 1 - k) inf5 rfl ?_ ?_ own3 hi ?_
      · first | rfl | (first | rw [ev_tmp] | rw [ev_const] | skip) <;> simp only [upd_apply, Nat.reduceEqDiff, if_true, if_false, reduceIte, lit_iv, lit_w8, K0_4]
      · first | rfl | (first | rw [ev_tmp] | rw [ev_const] | skip) <;> simp only [upd_apply, Nat.reduceEqDiff, if_true, if_false, reduceIte, lit_iv, lit_w8, K0_4]
      intro h4 own4 wt4 n4
      have e8 : (BitVec.ofNat 64 (8 * b.length / 2 ^ (8 * k))).setWidth 8 = BitVec.ofNat 8 (8 * b.length / 2 ^ (8 * k)) := by
        apply BitVec.eq_of_toNat_eq
        simp
      rw [e8, padJ_set b hk] at own4
      repeat (first
        | refine R_seq ?_ | refine R_region ?_ | refine R_nil ?_ | refine Q_seq ?_ | refine Q_norm ?_ | refine Q_seqr ?_ | refine Q_seqx ?_ | refine Q_bl ?_ | refine Q_blr ?_ | refine Q_blx ?_ | refine Q_blo rfl ?_ | refine R_block ?_ | refine R_skip ?_ | refine R_exit ?_ | refine R_ret ?_ | refine I_true ?_ | refine I_false ?_ | refine N_exit ?_ | refine N_ret ?_
        | ((first | apply R_op | apply R_op0)
           · (first | (simp (maxDischargeDepth := 9) only [RA, Nat.reduceEqDiff, Nat.reduceLT, Nat.reduceLeDiff, Nat.reduceAdd, Nat.reduceSub, Nat.reduceMul, Nat.reduceDiv, Nat.reduceMod, Nat.reducePow, Nat.reduceBEq, Nat.reduceGT, reduceIte, j5, j6, iv_sub (padN b.length - 1 - k) 1 (by omega) (by omega), T3, T5, T38, T93, T94, cvi_64 Try.underlying3 Try.underlying93, cv64_8 Try.underlying93 Try.underlying5, K0_4] <;> rfl) | ((repeat (first | (simp (maxDischargeDepth := 9) only [RA, Nat.reduceEqDiff, Nat.reduceLT, Nat.reduceLeDiff, Nat.reduceAdd, Nat.reduceSub, Nat.reduceMul, Nat.reduceDiv, Nat.reduceMod, Nat.reducePow, Nat.reduceBEq, Nat.reduceGT, reduceIte, j5, j6, iv_sub (padN b.length - 1 - k) 1 (by omega) (by omega), T3, T5, T38, T93, T94, cvi_64 Try.underlying3 Try.underlying93, cv64_8 Try.underlying93 Try.underlying5, K0_4]; done) | simp (maxDischargeDepth := 9) only [RA, Nat.reduceEqDiff, Nat.reduceLT, Nat.reduceLeDiff, Nat.reduceAdd, Nat.reduceSub, Nat.reduceMul, Nat.reduceDiv, Nat.reduceMod, Nat.reducePow, Nat.reduceBEq, Nat.reduceGT, reduceIte, j5, j6, iv_sub (padN b.length - 1 - k) 1 (by omega) (by omega), T3, T5, T38, T93, T94, cvi_64 Try.underlying3 Try.underlying93, cv64_8 Try.underlying93 Try.underlying5, K0_4] | simp (disch := first | assumption | omega) only [RV, j5, j6, iv_sub (padN b.length - 1 - k) 1 (by omega) (by omega), T3, T5, T38, T93, T94, cvi_64 Try.underlying3 Try.underlying93, cv64_8 Try.underlying93 Try.underlying5, K0_4])) <;> rfl)))
        | (apply R_cond
           · (simp only [RE, Nat.reduceEqDiff, Nat.reduceLT, Nat.reduceLeDiff, Nat.reduceBEq, reduceIte, j5, j6, iv_sub (padN b.length - 1 - k) 1 (by omega) (by omega), T3, T5, T38, T93, T94, cvi_64 Try.underlying3 Try.underlying93, cv64_8 Try.underlying93 Try.underlying5, K0_4] <;> rfl))
        | (apply R_grd
           · (simp only [yieldedA, RY, Nat.reduceEqDiff, reduceIte, j5, j6, iv_sub (padN b.length - 1 - k) 1 (by omega) (by omega), T3, T5, T38, T93, T94, cvi_64 Try.underlying3 Try.underlying93, cv64_8 Try.underlying93 Try.underlying5, K0_4] <;> rfl)))
      have F4 := wt4.owFr F3.1 own3
      refine ⟨rfl, by first | rfl | first | rfl | (first | rw [ev_tmp] | rw [ev_const] | skip) <;> simp only [upd_apply, Nat.reduceEqDiff, if_true, if_false, reduceIte, lit_iv, lit_w8, K0_4], rfl, by omega, ?_, ?_, own4, F3.trans F4⟩
      · (try simp only [List.map_cons, List.map_nil, RH, Nat.reduceAdd, Nat.reduceEqDiff, reduceIte, ev_tmp, ev_const, lit_iv, lit_w8, lit_w32, lit_w64, envOf0, envOf1, envOf2, envOf3, envOf4, envOf5, T3, T5, T38, T93, T94, cvi_64 Try.underlying3 Try.underlying93, cv64_8 Try.underlying93 Try.underlying5, K0_4])
        congr 1
      · (try simp only [List.map_cons, List.map_nil, RH, Nat.reduceAdd, Nat.reduceEqDiff, reduceIte, ev_tmp, ev_const, lit_iv, lit_w8, lit_w32, lit_w64, envOf0, envOf1, envOf2, envOf3, envOf4, envOf5, T3, T5, T38, T93, T94, cvi_64 Try.underlying3 Try.underlying93, cv64_8 Try.underlying93 Try.underlying5, K0_4])
        congr 1
        apply BitVec.eq_of_toNat_eq
        rw [BitVec.toNat_ushiftRight, show (8#64).toNat = 8 from rfl, BitVec.toNat_ofNat, BitVec.toNat_ofNat, Nat.mod_eq_of_lt hm64, Nat.shiftRight_eq_div_pow, Nat.div_div_eq_div_mul, ← Nat.pow_add, show 8 * k + 8 = 8 * (k + 1) by omega, Nat.mod_eq_of_lt]
        exact Nat.lt_of_le_of_lt (Nat.div_le_self _ _) (by omega)
  · intro e3 h3 hK hO hN ⟨j5, j6, own3, F3⟩
    simp only [List.map_cons, List.map_nil, List.cons.injEq, and_true, RH, Nat.reduceAdd, Nat.reduceEqDiff, reduceIte, envOf0, envOf1, envOf2, envOf3, envOf4, envOf5] at hK
    have K0_4 := hK
    try simp only [RH] at hN
    have hz : 8 * b.length / 2 ^ (8 * 8) = 0 := Nat.div_eq_of_lt (by omega)
    have hx : ¬ ((0#64).toNat < (BitVec.ofNat 64 0).toNat) := by decide
    rw [hz] at j6
    rw [padJ_full] at own3
    repeat (first
      | refine R_seq ?_ | refine R_region ?_ | refine R_nil ?_ | refine Q_seq ?_ | refine Q_norm ?_ | refine Q_seqr ?_ | refine Q_seqx ?_ | refine Q_bl ?_ | refine Q_blr ?_ | refine Q_blx ?_ | refine Q_blo rfl ?_ | refine R_block ?_ | refine R_skip ?_ | refine R_exit ?_ | refine R_ret ?_ | refine I_true ?_ | refine I_false ?_ | refine N_exit ?_ | refine N_ret ?_
      | (refine R_draw (by kernel_rfl) ?_)
      | ((first | apply R_op | apply R_op0)
         · (first | (simp (maxDischargeDepth := 9) only [RA, Nat.reduceEqDiff, Nat.reduceLT, Nat.reduceLeDiff, Nat.reduceAdd, Nat.reduceSub, Nat.reduceMul, Nat.reduceDiv, Nat.reduceMod, Nat.reducePow, Nat.reduceBEq, Nat.reduceGT, reduceIte, j5, j6, hx, T3, T5, T38, T93, T94, cvi_64 Try.underlying3 Try.underlying93, cv64_8 Try.underlying93 Try.underlying5, K0_4] <;> rfl) | ((repeat (first | (simp (maxDischargeDepth := 9) only [RA, Nat.reduceEqDiff, Nat.reduceLT, Nat.reduceLeDiff, Nat.reduceAdd, Nat.reduceSub, Nat.reduceMul, Nat.reduceDiv, Nat.reduceMod, Nat.reducePow, Nat.reduceBEq, Nat.reduceGT, reduceIte, j5, j6, hx, T3, T5, T38, T93, T94, cvi_64 Try.underlying3 Try.underlying93, cv64_8 Try.underlying93 Try.underlying5, K0_4]; done) | simp (maxDischargeDepth := 9) only [RA, Nat.reduceEqDiff, Nat.reduceLT, Nat.reduceLeDiff, Nat.reduceAdd, Nat.reduceSub, Nat.reduceMul, Nat.reduceDiv, Nat.reduceMod, Nat.reducePow, Nat.reduceBEq, Nat.reduceGT, reduceIte, j5, j6, hx, T3, T5, T38, T93, T94, cvi_64 Try.underlying3 Try.underlying93, cv64_8 Try.underlying93 Try.underlying5, K0_4] | simp (disch := first | assumption | omega) only [RV, j5, j6, hx, T3, T5, T38, T93, T94, cvi_64 Try.underlying3 Try.underlying93, cv64_8 Try.underlying93 Try.underlying5, K0_4])) <;> rfl)))
      | (apply R_cond
         · (simp only [RE, Nat.reduceEqDiff, Nat.reduceLT, Nat.reduceLeDiff, Nat.reduceBEq, reduceIte, j5, j6, hx, T3, T5, T38, T93, T94, cvi_64 Try.underlying3 Try.underlying93, cv64_8 Try.underlying93 Try.underlying5, K0_4] <;> rfl))
      | (apply R_grd
         · (simp only [yieldedA, RY, Nat.reduceEqDiff, reduceIte, j5, j6, hx, T3, T5, T38, T93, T94, cvi_64 Try.underlying3 Try.underlying93, cv64_8 Try.underlying93 Try.underlying5, K0_4] <;> rfl)))
    refine ⟨.inr rfl, _, rfl, ?_, F3⟩
    (try simp only [List.map_cons, List.map_nil, RH, Nat.reduceAdd, Nat.reduceEqDiff, reduceIte, ev_tmp, ev_const, lit_iv, lit_w8, lit_w32, lit_w64, envOf0, envOf1, envOf2, envOf3, envOf4, envOf5, packR, T3, T5, T38, T93, T94, cvi_64 Try.underlying3 Try.underlying93, cv64_8 Try.underlying93 Try.underlying5, K0_4])
    exact own3
def refP (b : List (BitVec 8)) (k : Nat) : List (BitVec 8) := b ++ [0x80#8] ++ List.replicate k 0#8
theorem refP_length (b : List (BitVec 8)) (k : Nat) : (refP b k).length = b.length + 1 + k := by simp [refP]; omega
theorem refP_succ (b : List (BitVec 8)) (k : Nat) : refP b k ++ [0#8] = refP b (k + 1) := by
  simp [refP, List.replicate_succ']
def refQ (b : List (BitVec 8)) (k : Nat) : List (BitVec 8) := refP b (padN b.length - b.length - 9) ++ (be8 (8 * b.length)).take k
theorem be8_length (m : Nat) : (be8 m).length = 8 := by simp [be8]
theorem refQ_succ (b : List (BitVec 8)) {k : Nat} (hk : k < 8) : refQ b k ++ [BitVec.ofNat 8 (8 * b.length / 2 ^ (56 - 8 * k))] = refQ b (k + 1) := by
  unfold refQ
  rw [List.append_assoc, List.take_succ_eq_append_getElem (by rw [be8_length]; exact hk)]
  congr 3
  rw [← be8_get _ hk, List.getD_eq_getElem?_getD, List.getElem?_eq_getElem (by rw [be8_length]; exact hk)]
  rfl
theorem refQ_full (b : List (BitVec 8)) : refQ b 8 = padS b := by
  unfold refQ refP padS
  rw [List.take_of_length_le (by rw [be8_length]; exact Nat.le_refl _)]
theorem refQ_length (b : List (BitVec 8)) (k : Nat) : (refQ b k).length ≤ padN b.length := by
  have := padN_ge b.length
  unfold refQ
  rw [List.length_append, refP_length, List.length_take, be8_length]; omega
attribute [local irreducible] refP refQ be8
theorem inl55 : inlOf Try.prog 55 = true := by kernel_rfl
theorem iso55 : isoOf Try.prog 55 = false := by kernel_rfl
set_option maxRecDepth 20000 in
set_option maxHeartbeats 8000000 in
theorem pad55 (q : Nat) (h : Heap) (v : Value) (b : List (BitVec 8)) (hb : By h v b) (hl : b.length ≤ 2147483648) :
    ∃ v' h', fcall Try.prog (q + 1) (.func (.func 55) #[] #[]) [v] h = some (.ok v', h') ∧ OwB h.nx h' v' (padS b) ∧ Fr h.nx h h' := by
  rw [fcall_inl inl55 iso55, evF_eq Try.func55 rfl]
  apply evEnd_of_W
  simp only [Try.f55]
  have hNge := padN_ge b.length
  have hNle : padN b.length ≤ b.length + 72 := by unfold padN; omega
  have hN64 : padN b.length % 64 = 0 := by unfold padN; omega
  have hNm : ∀ k, k < padN b.length - b.length - 9 → (b.length + 1 + k) % 64 ≠ 56 := by unfold padN; intro k hk; omega
  have hNe : (b.length + 1 + (padN b.length - b.length - 9)) % 64 = 56 := by unfold padN; omega
  repeat (first
    | refine R_seq ?_ | refine R_region ?_ | refine R_nil ?_ | refine Q_seq ?_ | refine Q_norm ?_ | refine Q_seqr ?_ | refine Q_seqx ?_ | refine Q_bl ?_ | refine Q_blr ?_ | refine Q_blx ?_ | refine Q_blo rfl ?_ | refine R_block ?_ | refine R_skip ?_ | refine R_exit ?_ | refine R_ret ?_ | refine I_true ?_ | refine I_false ?_ | refine N_exit ?_ | refine N_ret ?_
    | (refine R_draw (by kernel_rfl) ?_)
    | ((first | apply R_op | apply R_op0)
       · (first | (simp (maxDischargeDepth := 9) only [RA, Nat.reduceEqDiff, Nat.reduceLT, Nat.reduceLeDiff, Nat.reduceAdd, Nat.reduceSub, Nat.reduceMul, Nat.reduceDiv, Nat.reduceMod, Nat.reducePow, Nat.reduceBEq, Nat.reduceGT, reduceIte, T1, T3, T5, T38, T93, cvi_64 Try.underlying3 Try.underlying93, cv64_8 Try.underlying93 Try.underlying5] <;> rfl) | ((repeat (first | (simp (maxDischargeDepth := 9) only [RA, Nat.reduceEqDiff, Nat.reduceLT, Nat.reduceLeDiff, Nat.reduceAdd, Nat.reduceSub, Nat.reduceMul, Nat.reduceDiv, Nat.reduceMod, Nat.reducePow, Nat.reduceBEq, Nat.reduceGT, reduceIte, T1, T3, T5, T38, T93, cvi_64 Try.underlying3 Try.underlying93, cv64_8 Try.underlying93 Try.underlying5]; done) | simp (maxDischargeDepth := 9) only [RA, Nat.reduceEqDiff, Nat.reduceLT, Nat.reduceLeDiff, Nat.reduceAdd, Nat.reduceSub, Nat.reduceMul, Nat.reduceDiv, Nat.reduceMod, Nat.reducePow, Nat.reduceBEq, Nat.reduceGT, reduceIte, T1, T3, T5, T38, T93, cvi_64 Try.underlying3 Try.underlying93, cv64_8 Try.underlying93 Try.underlying5] | simp (disch := first | assumption | omega) only [RV, T1, T3, T5, T38, T93, cvi_64 Try.underlying3 Try.underlying93, cv64_8 Try.underlying93 Try.underlying5])) <;> rfl)))
    | (apply R_cond
       · (simp only [RE, Nat.reduceEqDiff, Nat.reduceLT, Nat.reduceLeDiff, Nat.reduceBEq, reduceIte, T1, T3, T5, T38, T93, cvi_64 Try.underlying3 Try.underlying93, cv64_8 Try.underlying93 Try.underlying5] <;> rfl))
    | (apply R_grd
       · (simp only [yieldedA, RY, Nat.reduceEqDiff, reduceIte, T1, T3, T5, T38, T93, cvi_64 Try.underlying3 Try.underlying93, cv64_8 Try.underlying93 Try.underlying5] <;> rfl)))
  refine R_app E38 Try.underlying38 (v := .slice none 0 0) (w := v) (lo := h.nx) (xs := []) (ys := b) ?_ ?_ .nil hb (Nat.le_refl _) (by simp; omega) ?_
  · first | rfl | (first | rw [ev_tmp] | rw [ev_const] | skip) <;> simp only [upd_apply, Nat.reduceEqDiff, if_true, if_false, reduceIte, lit_iv, lit_w8]
  · first | rfl | (first | rw [ev_tmp] | rw [ev_const] | skip) <;> simp only [upd_apply, Nat.reduceEqDiff, if_true, if_false, reduceIte, lit_iv, lit_w8]
  intro v1 h1 own1 wt1
  rw [List.nil_append] at own1
  have F1 : Fr h.nx h h1 := wt1.fr (Nat.le_refl _) (fun r hr => by simp [rowsOfV] at hr)
  have n1 := F1.1
  repeat (first
    | refine R_seq ?_ | refine R_region ?_ | refine R_nil ?_ | refine Q_seq ?_ | refine Q_norm ?_ | refine Q_seqr ?_ | refine Q_seqx ?_ | refine Q_bl ?_ | refine Q_blr ?_ | refine Q_blx ?_ | refine Q_blo rfl ?_ | refine R_block ?_ | refine R_skip ?_ | refine R_exit ?_ | refine R_ret ?_ | refine I_true ?_ | refine I_false ?_ | refine N_exit ?_ | refine N_ret ?_
    | (refine R_draw (by kernel_rfl) ?_)
    | ((first | apply R_op | apply R_op0)
       · (first | (simp (maxDischargeDepth := 9) only [RA, Nat.reduceEqDiff, Nat.reduceLT, Nat.reduceLeDiff, Nat.reduceAdd, Nat.reduceSub, Nat.reduceMul, Nat.reduceDiv, Nat.reduceMod, Nat.reducePow, Nat.reduceBEq, Nat.reduceGT, reduceIte, T1, T3, T5, T38, T93, cvi_64 Try.underlying3 Try.underlying93, cv64_8 Try.underlying93 Try.underlying5] <;> rfl) | ((repeat (first | (simp (maxDischargeDepth := 9) only [RA, Nat.reduceEqDiff, Nat.reduceLT, Nat.reduceLeDiff, Nat.reduceAdd, Nat.reduceSub, Nat.reduceMul, Nat.reduceDiv, Nat.reduceMod, Nat.reducePow, Nat.reduceBEq, Nat.reduceGT, reduceIte, T1, T3, T5, T38, T93, cvi_64 Try.underlying3 Try.underlying93, cv64_8 Try.underlying93 Try.underlying5]; done) | simp (maxDischargeDepth := 9) only [RA, Nat.reduceEqDiff, Nat.reduceLT, Nat.reduceLeDiff, Nat.reduceAdd, Nat.reduceSub, Nat.reduceMul, Nat.reduceDiv, Nat.reduceMod, Nat.reducePow, Nat.reduceBEq, Nat.reduceGT, reduceIte, T1, T3, T5, T38, T93, cvi_64 Try.underlying3 Try.underlying93, cv64_8 Try.underlying93 Try.underlying5] | simp (disch := first | assumption | omega) only [RV, T1, T3, T5, T38, T93, cvi_64 Try.underlying3 Try.underlying93, cv64_8 Try.underlying93 Try.underlying5])) <;> rfl)))
    | (apply R_cond
       · (simp only [RE, Nat.reduceEqDiff, Nat.reduceLT, Nat.reduceLeDiff, Nat.reduceBEq, reduceIte, T1, T3, T5, T38, T93, cvi_64 Try.underlying3 Try.underlying93, cv64_8 Try.underlying93 Try.underlying5] <;> rfl))
    | (apply R_grd
       · (simp only [yieldedA, RY, Nat.reduceEqDiff, reduceIte, T1, T3, T5, T38, T93, cvi_64 Try.underlying3 Try.underlying93, cv64_8 Try.underlying93 Try.underlying5] <;> rfl)))
  refine R_app E38 Try.underlying38 (v := v1) (w := .slice (some ⟨h1.nx, 0, none⟩) 1 1) (lo := h.nx) (xs := b) (ys := [_]) ?_ ?_ own1.new one_by (by simp only [RH]; omega) (by simp; omega) ?_
  · first | rfl | (first | rw [ev_tmp] | rw [ev_const] | skip) <;> simp only [upd_apply, Nat.reduceEqDiff, if_true, if_false, reduceIte, lit_iv, lit_w8]
  · first | rfl | (first | rw [ev_tmp] | rw [ev_const] | skip) <;> simp only [upd_apply, Nat.reduceEqDiff, if_true, if_false, reduceIte, lit_iv, lit_w8]
  intro v2 h2 own2 wt2
  have own2' : OwB h.nx h2 v2 (refP b 0) := by
    unfold refP; simpa using own2
  have F2 : Fr h.nx h h2 := (F1.new n1 _ _ _).trans (wt2.owFr (by simp only [RH]; omega) own1.new)
  repeat (first
    | refine R_seq ?_ | refine R_region ?_ | refine R_nil ?_ | refine Q_seq ?_ | refine Q_norm ?_ | refine Q_seqr ?_ | refine Q_seqx ?_ | refine Q_bl ?_ | refine Q_blr ?_ | refine Q_blx ?_ | refine Q_blo rfl ?_ | refine R_block ?_ | refine R_skip ?_ | refine R_exit ?_ | refine R_ret ?_ | refine I_true ?_ | refine I_false ?_ | refine N_exit ?_ | refine N_ret ?_
    | (refine R_draw (by kernel_rfl) ?_)
    | ((first | apply R_op | apply R_op0)
       · (first | (simp (maxDischargeDepth := 9) only [RA, Nat.reduceEqDiff, Nat.reduceLT, Nat.reduceLeDiff, Nat.reduceAdd, Nat.reduceSub, Nat.reduceMul, Nat.reduceDiv, Nat.reduceMod, Nat.reducePow, Nat.reduceBEq, Nat.reduceGT, reduceIte, T1, T3, T5, T38, T93, cvi_64 Try.underlying3 Try.underlying93, cv64_8 Try.underlying93 Try.underlying5] <;> rfl) | ((repeat (first | (simp (maxDischargeDepth := 9) only [RA, Nat.reduceEqDiff, Nat.reduceLT, Nat.reduceLeDiff, Nat.reduceAdd, Nat.reduceSub, Nat.reduceMul, Nat.reduceDiv, Nat.reduceMod, Nat.reducePow, Nat.reduceBEq, Nat.reduceGT, reduceIte, T1, T3, T5, T38, T93, cvi_64 Try.underlying3 Try.underlying93, cv64_8 Try.underlying93 Try.underlying5]; done) | simp (maxDischargeDepth := 9) only [RA, Nat.reduceEqDiff, Nat.reduceLT, Nat.reduceLeDiff, Nat.reduceAdd, Nat.reduceSub, Nat.reduceMul, Nat.reduceDiv, Nat.reduceMod, Nat.reducePow, Nat.reduceBEq, Nat.reduceGT, reduceIte, T1, T3, T5, T38, T93, cvi_64 Try.underlying3 Try.underlying93, cv64_8 Try.underlying93 Try.underlying5] | simp (disch := first | assumption | omega) only [RV, T1, T3, T5, T38, T93, cvi_64 Try.underlying3 Try.underlying93, cv64_8 Try.underlying93 Try.underlying5])) <;> rfl)))
    | (apply R_cond
       · (simp only [RE, Nat.reduceEqDiff, Nat.reduceLT, Nat.reduceLeDiff, Nat.reduceBEq, reduceIte, T1, T3, T5, T38, T93, cvi_64 Try.underlying3 Try.underlying93, cv64_8 Try.underlying93 Try.underlying5] <;> rfl))
    | (apply R_grd
       · (simp only [yieldedA, RY, Nat.reduceEqDiff, reduceIte, T1, T3, T5, T38, T93, cvi_64 Try.underlying3 Try.underlying93, cv64_8 Try.underlying93 Try.underlying5] <;> rfl)))
  refine W_loopK [0] [] (fun k e3 h3 => ∃ v3, e3 3 = v3 ∧ OwB h.nx h3 v3 (refP b k) ∧ Fr h.nx h h3) (padN b.length - b.length - 9) (by omega) ?_ ?_ ?_
  · exact ⟨v2, by (try simp only [List.map_cons, List.map_nil, RH, Nat.reduceAdd, Nat.reduceEqDiff, reduceIte, ev_tmp, ev_const, lit_iv, lit_w8, lit_w32, lit_w64, envOf0, envOf1, envOf2, envOf3, envOf4, envOf5, T1, T3, T5, T38, T93, cvi_64 Try.underlying3 Try.underlying93, cv64_8 Try.underlying93 Try.underlying5]), own2', F2⟩
  · intro k hk e3 h3 hK hO hN ⟨v3, j3, own3, F3⟩
    simp only [List.map_cons, List.map_nil, List.cons.injEq, and_true, RH, Nat.reduceAdd, Nat.reduceEqDiff, reduceIte, envOf0, envOf1, envOf2, envOf3, envOf4, envOf5] at hK
    have K0_0 := hK
    try simp only [RH] at hN
    have hm := hNm k hk
    have hl3 := S38len own3.sl
    rw [refP_length] at hl3
    have n3 := F3.1
    repeat (first
      | refine R_seq ?_ | refine R_region ?_ | refine R_nil ?_ | refine Q_seq ?_ | refine Q_norm ?_ | refine Q_seqr ?_ | refine Q_seqx ?_ | refine Q_bl ?_ | refine Q_blr ?_ | refine Q_blx ?_ | refine Q_blo rfl ?_ | refine R_block ?_ | refine R_skip ?_ | refine R_exit ?_ | refine R_ret ?_ | refine I_true ?_ | refine I_false ?_ | refine N_exit ?_ | refine N_ret ?_
      | (refine R_draw (by kernel_rfl) ?_)
      | ((first | apply R_op | apply R_op0)
         · (first | (simp (maxDischargeDepth := 9) only [RA, Nat.reduceEqDiff, Nat.reduceLT, Nat.reduceLeDiff, Nat.reduceAdd, Nat.reduceSub, Nat.reduceMul, Nat.reduceDiv, Nat.reduceMod, Nat.reducePow, Nat.reduceBEq, Nat.reduceGT, reduceIte, j3, hl3, hm, T1, T3, T5, T38, T93, cvi_64 Try.underlying3 Try.underlying93, cv64_8 Try.underlying93 Try.underlying5, K0_0] <;> rfl) | ((repeat (first | (simp (maxDischargeDepth := 9) only [RA, Nat.reduceEqDiff, Nat.reduceLT, Nat.reduceLeDiff, Nat.reduceAdd, Nat.reduceSub, Nat.reduceMul, Nat.reduceDiv, Nat.reduceMod, Nat.reducePow, Nat.reduceBEq, Nat.reduceGT, reduceIte, j3, hl3, hm, T1, T3, T5, T38, T93, cvi_64 Try.underlying3 Try.underlying93, cv64_8 Try.underlying93 Try.underlying5, K0_0]; done) | simp (maxDischargeDepth := 9) only [RA, Nat.reduceEqDiff, Nat.reduceLT, Nat.reduceLeDiff, Nat.reduceAdd, Nat.reduceSub, Nat.reduceMul, Nat.reduceDiv, Nat.reduceMod, Nat.reducePow, Nat.reduceBEq, Nat.reduceGT, reduceIte, j3, hl3, hm, T1, T3, T5, T38, T93, cvi_64 Try.underlying3 Try.underlying93, cv64_8 Try.underlying93 Try.underlying5, K0_0] | simp (disch := first | assumption | omega) only [RV, j3, hl3, hm, T1, T3, T5, T38, T93, cvi_64 Try.underlying3 Try.underlying93, cv64_8 Try.underlying93 Try.underlying5, K0_0])) <;> rfl)))
      | (apply R_cond
         · (simp only [RE, Nat.reduceEqDiff, Nat.reduceLT, Nat.reduceLeDiff, Nat.reduceBEq, reduceIte, j3, hl3, hm, T1, T3, T5, T38, T93, cvi_64 Try.underlying3 Try.underlying93, cv64_8 Try.underlying93 Try.underlying5, K0_0] <;> rfl))
      | (apply R_grd
         · (simp only [yieldedA, RY, Nat.reduceEqDiff, reduceIte, j3, hl3, hm, T1, T3, T5, T38, T93, cvi_64 Try.underlying3 Try.underlying93, cv64_8 Try.underlying93 Try.underlying5, K0_0] <;> rfl)))
    refine R_app E38 Try.underlying38 (v := v3) (w := .slice (some ⟨h3.nx, 0, none⟩) 1 1) (lo := h.nx) (xs := refP b k) (ys := [_]) ?_ ?_ own3.new one_by (by simp only [RH]; omega) (by rw [refP_length]; simp; omega) ?_
    · first | rfl | (first | rw [ev_tmp] | rw [ev_const] | skip) <;> simp only [upd_apply, Nat.reduceEqDiff, if_true, if_false, reduceIte, lit_iv, lit_w8, K0_0]
    · first | rfl | (first | rw [ev_tmp] | rw [ev_const] | skip) <;> simp only [upd_apply, Nat.reduceEqDiff, if_true, if_false, reduceIte, lit_iv, lit_w8, K0_0]
    intro v4 h4 own4 wt4
    rw [refP_succ] at own4
    have n4 := wt4.nx
    simp only [RH] at n4
    repeat (first
      | refine R_seq ?_ | refine R_region ?_ | refine R_nil ?_ | refine Q_seq ?_ | refine Q_norm ?_ | refine Q_seqr ?_ | refine Q_seqx ?_ | refine Q_bl ?_ | refine Q_blr ?_ | refine Q_blx ?_ | refine Q_blo rfl ?_ | refine R_block ?_ | refine R_skip ?_ | refine R_exit ?_ | refine R_ret ?_ | refine I_true ?_ | refine I_false ?_ | refine N_exit ?_ | refine N_ret ?_
      | (refine R_draw (by kernel_rfl) ?_)
      | ((first | apply R_op | apply R_op0)
         · (first | (simp (maxDischargeDepth := 9) only [RA, Nat.reduceEqDiff, Nat.reduceLT, Nat.reduceLeDiff, Nat.reduceAdd, Nat.reduceSub, Nat.reduceMul, Nat.reduceDiv, Nat.reduceMod, Nat.reducePow, Nat.reduceBEq, Nat.reduceGT, reduceIte, T1, T3, T5, T38, T93, cvi_64 Try.underlying3 Try.underlying93, cv64_8 Try.underlying93 Try.underlying5, K0_0] <;> rfl) | ((repeat (first | (simp (maxDischargeDepth := 9) only [RA, Nat.reduceEqDiff, Nat.reduceLT, Nat.reduceLeDiff, Nat.reduceAdd, Nat.reduceSub, Nat.reduceMul, Nat.reduceDiv, Nat.reduceMod, Nat.reducePow, Nat.reduceBEq, Nat.reduceGT, reduceIte, T1, T3, T5, T38, T93, cvi_64 Try.underlying3 Try.underlying93, cv64_8 Try.underlying93 Try.underlying5, K0_0]; done) | simp (maxDischargeDepth := 9) only [RA, Nat.reduceEqDiff, Nat.reduceLT, Nat.reduceLeDiff, Nat.reduceAdd, Nat.reduceSub, Nat.reduceMul, Nat.reduceDiv, Nat.reduceMod, Nat.reducePow, Nat.reduceBEq, Nat.reduceGT, reduceIte, T1, T3, T5, T38, T93, cvi_64 Try.underlying3 Try.underlying93, cv64_8 Try.underlying93 Try.underlying5, K0_0] | simp (disch := first | assumption | omega) only [RV, T1, T3, T5, T38, T93, cvi_64 Try.underlying3 Try.underlying93, cv64_8 Try.underlying93 Try.underlying5, K0_0])) <;> rfl)))
      | (apply R_cond
         · (simp only [RE, Nat.reduceEqDiff, Nat.reduceLT, Nat.reduceLeDiff, Nat.reduceBEq, reduceIte, T1, T3, T5, T38, T93, cvi_64 Try.underlying3 Try.underlying93, cv64_8 Try.underlying93 Try.underlying5, K0_0] <;> rfl))
      | (apply R_grd
         · (simp only [yieldedA, RY, Nat.reduceEqDiff, reduceIte, T1, T3, T5, T38, T93, cvi_64 Try.underlying3 Try.underlying93, cv64_8 Try.underlying93 Try.underlying5, K0_0] <;> rfl)))
    refine ⟨rfl, by first | rfl | first | rfl | (first | rw [ev_tmp] | rw [ev_const] | skip) <;> simp only [upd_apply, Nat.reduceEqDiff, if_true, if_false, reduceIte, lit_iv, lit_w8, K0_0], rfl, by omega, v4, by (try simp only [List.map_cons, List.map_nil, RH, Nat.reduceAdd, Nat.reduceEqDiff, reduceIte, ev_tmp, ev_const, lit_iv, lit_w8, lit_w32, lit_w64, envOf0, envOf1, envOf2, envOf3, envOf4, envOf5, T1, T3, T5, T38, T93, cvi_64 Try.underlying3 Try.underlying93, cv64_8 Try.underlying93 Try.underlying5, K0_0]), own4, (F3.new n3 _ _ _).trans (wt4.owFr (by simp only [RH]; omega) own3.new)⟩
  · intro e3 h3 hK hO hN ⟨v3, j3, own3, F3⟩
    simp only [List.map_cons, List.map_nil, List.cons.injEq, and_true, RH, Nat.reduceAdd, Nat.reduceEqDiff, reduceIte, envOf0, envOf1, envOf2, envOf3, envOf4, envOf5] at hK
    have K0_0 := hK
    try simp only [RH] at hN
    have hl3 := S38len own3.sl
    rw [refP_length] at hl3
    have own3' : OwB h.nx h3 v3 (refQ b 0) := by
      unfold refQ; simpa using own3
    have em : BitVec.ofNat 64 b.length * 8#64 = BitVec.ofNat 64 (8 * b.length) := by
      rw [Nat.mul_comm, BitVec.ofNat_mul]
    repeat (first
      | refine R_seq ?_ | refine R_region ?_ | refine R_nil ?_ | refine Q_seq ?_ | refine Q_norm ?_ | refine Q_seqr ?_ | refine Q_seqx ?_ | refine Q_bl ?_ | refine Q_blr ?_ | refine Q_blx ?_ | refine Q_blo rfl ?_ | refine R_block ?_ | refine R_skip ?_ | refine R_exit ?_ | refine R_ret ?_ | refine I_true ?_ | refine I_false ?_ | refine N_exit ?_ | refine N_ret ?_
      | (refine R_draw (by kernel_rfl) ?_)
      | ((first | apply R_op | apply R_op0)
         · (first | (simp (maxDischargeDepth := 9) only [RA, Nat.reduceEqDiff, Nat.reduceLT, Nat.reduceLeDiff, Nat.reduceAdd, Nat.reduceSub, Nat.reduceMul, Nat.reduceDiv, Nat.reduceMod, Nat.reducePow, Nat.reduceBEq, Nat.reduceGT, reduceIte, j3, hl3, hNe, S38len hb, em, T1, T3, T5, T38, T93, cvi_64 Try.underlying3 Try.underlying93, cv64_8 Try.underlying93 Try.underlying5, K0_0] <;> rfl) | ((repeat (first | (simp (maxDischargeDepth := 9) only [RA, Nat.reduceEqDiff, Nat.reduceLT, Nat.reduceLeDiff, Nat.reduceAdd, Nat.reduceSub, Nat.reduceMul, Nat.reduceDiv, Nat.reduceMod, Nat.reducePow, Nat.reduceBEq, Nat.reduceGT, reduceIte, j3, hl3, hNe, S38len hb, em, T1, T3, T5, T38, T93, cvi_64 Try.underlying3 Try.underlying93, cv64_8 Try.underlying93 Try.underlying5, K0_0]; done) | simp (maxDischargeDepth := 9) only [RA, Nat.reduceEqDiff, Nat.reduceLT, Nat.reduceLeDiff, Nat.reduceAdd, Nat.reduceSub, Nat.reduceMul, Nat.reduceDiv, Nat.reduceMod, Nat.reducePow, Nat.reduceBEq, Nat.reduceGT, reduceIte, j3, hl3, hNe, S38len hb, em, T1, T3, T5, T38, T93, cvi_64 Try.underlying3 Try.underlying93, cv64_8 Try.underlying93 Try.underlying5, K0_0] | simp (disch := first | assumption | omega) only [RV, j3, hl3, hNe, S38len hb, em, T1, T3, T5, T38, T93, cvi_64 Try.underlying3 Try.underlying93, cv64_8 Try.underlying93 Try.underlying5, K0_0])) <;> rfl)))
      | (apply R_cond
         · (simp only [RE, Nat.reduceEqDiff, Nat.reduceLT, Nat.reduceLeDiff, Nat.reduceBEq, reduceIte, j3, hl3, hNe, S38len hb, em, T1, T3, T5, T38, T93, cvi_64 Try.underlying3 Try.underlying93, cv64_8 Try.underlying93 Try.underlying5, K0_0] <;> rfl))
      | (apply R_grd
         · (simp only [yieldedA, RY, Nat.reduceEqDiff, reduceIte, j3, hl3, hNe, S38len hb, em, T1, T3, T5, T38, T93, cvi_64 Try.underlying3 Try.underlying93, cv64_8 Try.underlying93 Try.underlying5, K0_0] <;> rfl)))
    refine W_loopK [4] [] (fun k e4 h4 => ∃ v4, e4 3 = v4 ∧ e4 5 = iv k ∧ OwB h.nx h4 v4 (refQ b k) ∧ Fr h.nx h h4) 8 (by decide) ?_ ?_ ?_
    · exact ⟨v3, by (try simp only [List.map_cons, List.map_nil, RH, Nat.reduceAdd, Nat.reduceEqDiff, reduceIte, ev_tmp, ev_const, lit_iv, lit_w8, lit_w32, lit_w64, envOf0, envOf1, envOf2, envOf3, envOf4, envOf5, j3, T1, T3, T5, T38, T93, cvi_64 Try.underlying3 Try.underlying93, cv64_8 Try.underlying93 Try.underlying5, K0_0]), by (try simp only [List.map_cons, List.map_nil, RH, Nat.reduceAdd, Nat.reduceEqDiff, reduceIte, ev_tmp, ev_const, lit_iv, lit_w8, lit_w32, lit_w64, envOf0, envOf1, envOf2, envOf3, envOf4, envOf5, T1, T3, T5, T38, T93, cvi_64 Try.underlying3 Try.underlying93, cv64_8 Try.underlying93 Try.underlying5, K0_0]), own3', F3⟩
    · intro k hk e4 h4 hK hO hN ⟨v4, j3, j5, own4, F4⟩
      simp only [List.map_cons, List.map_nil, List.cons.injEq, and_true, RH, Nat.reduceAdd, Nat.reduceEqDiff, reduceIte, envOf0, envOf1, envOf2, envOf3, envOf4, envOf5, K0_0] at hK
      have K1_4 := hK
      try simp only [RH] at hN
      have n4 := F4.1
      have hlq := refQ_length b k
      repeat (first
        | refine R_seq ?_ | refine R_region ?_ | refine R_nil ?_ | refine Q_seq ?_ | refine Q_norm ?_ | refine Q_seqr ?_ | refine Q_seqx ?_ | refine Q_bl ?_ | refine Q_blr ?_ | refine Q_blx ?_ | refine Q_blo rfl ?_ | refine R_block ?_ | refine R_skip ?_ | refine R_exit ?_ | refine R_ret ?_ | refine I_true ?_ | refine I_false ?_ | refine N_exit ?_ | refine N_ret ?_
        | (refine R_draw (by kernel_rfl) ?_)
        | ((first | apply R_op | apply R_op0)
           · (first | (simp (maxDischargeDepth := 9) only [RA, Nat.reduceEqDiff, Nat.reduceLT, Nat.reduceLeDiff, Nat.reduceAdd, Nat.reduceSub, Nat.reduceMul, Nat.reduceDiv, Nat.reduceMod, Nat.reducePow, Nat.reduceBEq, Nat.reduceGT, reduceIte, j3, j5, hk, cv64_8 Try.underlying93 Try.underlying5, T1, T3, T5, T38, T93, cvi_64 Try.underlying3 Try.underlying93, K0_0, K1_4] <;> rfl) | ((repeat (first | (simp (maxDischargeDepth := 9) only [RA, Nat.reduceEqDiff, Nat.reduceLT, Nat.reduceLeDiff, Nat.reduceAdd, Nat.reduceSub, Nat.reduceMul, Nat.reduceDiv, Nat.reduceMod, Nat.reducePow, Nat.reduceBEq, Nat.reduceGT, reduceIte, j3, j5, hk, cv64_8 Try.underlying93 Try.underlying5, T1, T3, T5, T38, T93, cvi_64 Try.underlying3 Try.underlying93, K0_0, K1_4]; done) | simp (maxDischargeDepth := 9) only [RA, Nat.reduceEqDiff, Nat.reduceLT, Nat.reduceLeDiff, Nat.reduceAdd, Nat.reduceSub, Nat.reduceMul, Nat.reduceDiv, Nat.reduceMod, Nat.reducePow, Nat.reduceBEq, Nat.reduceGT, reduceIte, j3, j5, hk, cv64_8 Try.underlying93 Try.underlying5, T1, T3, T5, T38, T93, cvi_64 Try.underlying3 Try.underlying93, K0_0, K1_4] | simp (disch := first | assumption | omega) only [RV, j3, j5, hk, cv64_8 Try.underlying93 Try.underlying5, T1, T3, T5, T38, T93, cvi_64 Try.underlying3 Try.underlying93, K0_0, K1_4])) <;> rfl)))
        | (apply R_cond
           · (simp only [RE, Nat.reduceEqDiff, Nat.reduceLT, Nat.reduceLeDiff, Nat.reduceBEq, reduceIte, j3, j5, hk, cv64_8 Try.underlying93 Try.underlying5, T1, T3, T5, T38, T93, cvi_64 Try.underlying3 Try.underlying93, K0_0, K1_4] <;> rfl))
        | (apply R_grd
           · (simp only [yieldedA, RY, Nat.reduceEqDiff, reduceIte, j3, j5, hk, cv64_8 Try.underlying93 Try.underlying5, T1, T3, T5, T38, T93, cvi_64 Try.underlying3 Try.underlying93, K0_0, K1_4] <;> rfl)))
      refine R_app E38 Try.underlying38 (v := v4) (w := .slice (some ⟨h4.nx, 0, none⟩) 1 1) (lo := h.nx) (xs := refQ b k) (ys := [_]) ?_ ?_ own4.new one_by (by simp only [RH]; omega) (by simp; omega) ?_
      · first | rfl | (first | rw [ev_tmp] | rw [ev_const] | skip) <;> simp only [upd_apply, Nat.reduceEqDiff, if_true, if_false, reduceIte, lit_iv, lit_w8, K0_0, K1_4]
      · first | rfl | (first | rw [ev_tmp] | rw [ev_const] | skip) <;> simp only [upd_apply, Nat.reduceEqDiff, if_true, if_false, reduceIte, lit_iv, lit_w8, K0_0, K1_4]
      intro v5 h5 own5 wt5
      have e8 : (BitVec.ofNat 64 (8 * b.length) >>> (56 - 8 * k)).setWidth 8 = BitVec.ofNat 8 (8 * b.length / 2 ^ (56 - 8 * k)) := by
        apply BitVec.eq_of_toNat_eq
        rw [BitVec.toNat_setWidth, BitVec.toNat_ushiftRight, BitVec.toNat_ofNat, BitVec.toNat_ofNat, Nat.mod_eq_of_lt (show 8 * b.length < 2 ^ 64 by omega), Nat.shiftRight_eq_div_pow]
      rw [e8, refQ_succ b hk] at own5
      have n5 := wt5.nx
      simp only [RH] at n5
      repeat (first
        | refine R_seq ?_ | refine R_region ?_ | refine R_nil ?_ | refine Q_seq ?_ | refine Q_norm ?_ | refine Q_seqr ?_ | refine Q_seqx ?_ | refine Q_bl ?_ | refine Q_blr ?_ | refine Q_blx ?_ | refine Q_blo rfl ?_ | refine R_block ?_ | refine R_skip ?_ | refine R_exit ?_ | refine R_ret ?_ | refine I_true ?_ | refine I_false ?_ | refine N_exit ?_ | refine N_ret ?_
        | (refine R_draw (by kernel_rfl) ?_)
        | ((first | apply R_op | apply R_op0)
           · (first | (simp (maxDischargeDepth := 9) only [RA, Nat.reduceEqDiff, Nat.reduceLT, Nat.reduceLeDiff, Nat.reduceAdd, Nat.reduceSub, Nat.reduceMul, Nat.reduceDiv, Nat.reduceMod, Nat.reducePow, Nat.reduceBEq, Nat.reduceGT, reduceIte, j5, T1, T3, T5, T38, T93, cvi_64 Try.underlying3 Try.underlying93, cv64_8 Try.underlying93 Try.underlying5, K0_0, K1_4] <;> rfl) | ((repeat (first | (simp (maxDischargeDepth := 9) only [RA, Nat.reduceEqDiff, Nat.reduceLT, Nat.reduceLeDiff, Nat.reduceAdd, Nat.reduceSub, Nat.reduceMul, Nat.reduceDiv, Nat.reduceMod, Nat.reducePow, Nat.reduceBEq, Nat.reduceGT, reduceIte, j5, T1, T3, T5, T38, T93, cvi_64 Try.underlying3 Try.underlying93, cv64_8 Try.underlying93 Try.underlying5, K0_0, K1_4]; done) | simp (maxDischargeDepth := 9) only [RA, Nat.reduceEqDiff, Nat.reduceLT, Nat.reduceLeDiff, Nat.reduceAdd, Nat.reduceSub, Nat.reduceMul, Nat.reduceDiv, Nat.reduceMod, Nat.reducePow, Nat.reduceBEq, Nat.reduceGT, reduceIte, j5, T1, T3, T5, T38, T93, cvi_64 Try.underlying3 Try.underlying93, cv64_8 Try.underlying93 Try.underlying5, K0_0, K1_4] | simp (disch := first | assumption | omega) only [RV, j5, T1, T3, T5, T38, T93, cvi_64 Try.underlying3 Try.underlying93, cv64_8 Try.underlying93 Try.underlying5, K0_0, K1_4])) <;> rfl)))
        | (apply R_cond
           · (simp only [RE, Nat.reduceEqDiff, Nat.reduceLT, Nat.reduceLeDiff, Nat.reduceBEq, reduceIte, j5, T1, T3, T5, T38, T93, cvi_64 Try.underlying3 Try.underlying93, cv64_8 Try.underlying93 Try.underlying5, K0_0, K1_4] <;> rfl))
        | (apply R_grd
           · (simp only [yieldedA, RY, Nat.reduceEqDiff, reduceIte, j5, T1, T3, T5, T38, T93, cvi_64 Try.underlying3 Try.underlying93, cv64_8 Try.underlying93 Try.underlying5, K0_0, K1_4] <;> rfl)))
      refine ⟨rfl, by first | rfl | first | rfl | (first | rw [ev_tmp] | rw [ev_const] | skip) <;> simp only [upd_apply, Nat.reduceEqDiff, if_true, if_false, reduceIte, lit_iv, lit_w8, K0_0, K1_4], rfl, by omega, v5, by (try simp only [List.map_cons, List.map_nil, RH, Nat.reduceAdd, Nat.reduceEqDiff, reduceIte, ev_tmp, ev_const, lit_iv, lit_w8, lit_w32, lit_w64, envOf0, envOf1, envOf2, envOf3, envOf4, envOf5, T1, T3, T5, T38, T93, cvi_64 Try.underlying3 Try.underlying93, cv64_8 Try.underlying93 Try.underlying5, K0_0, K1_4]), by (try simp only [List.map_cons, List.map_nil, RH, Nat.reduceAdd, Nat.reduceEqDiff, reduceIte, ev_tmp, ev_const, lit_iv, lit_w8, lit_w32, lit_w64, envOf0, envOf1, envOf2, envOf3, envOf4, envOf5, T1, T3, T5, T38, T93, cvi_64 Try.underlying3 Try.underlying93, cv64_8 Try.underlying93 Try.underlying5, K0_0, K1_4]), own5, (F4.new n4 _ _ _).trans (wt5.owFr (by simp only [RH]; omega) own4.new)⟩
    · intro e4 h4 hK hO hN ⟨v4, j3, j5, own4, F4⟩
      simp only [List.map_cons, List.map_nil, List.cons.injEq, and_true, RH, Nat.reduceAdd, Nat.reduceEqDiff, reduceIte, envOf0, envOf1, envOf2, envOf3, envOf4, envOf5, K0_0] at hK
      have K1_4 := hK
      try simp only [RH] at hN
      rw [refQ_full] at own4
      repeat (first
        | refine R_seq ?_ | refine R_region ?_ | refine R_nil ?_ | refine Q_seq ?_ | refine Q_norm ?_ | refine Q_seqr ?_ | refine Q_seqx ?_ | refine Q_bl ?_ | refine Q_blr ?_ | refine Q_blx ?_ | refine Q_blo rfl ?_ | refine R_block ?_ | refine R_skip ?_ | refine R_exit ?_ | refine R_ret ?_ | refine I_true ?_ | refine I_false ?_ | refine N_exit ?_ | refine N_ret ?_
        | (refine R_draw (by kernel_rfl) ?_)
        | ((first | apply R_op | apply R_op0)
           · (first | (simp (maxDischargeDepth := 9) only [RA, Nat.reduceEqDiff, Nat.reduceLT, Nat.reduceLeDiff, Nat.reduceAdd, Nat.reduceSub, Nat.reduceMul, Nat.reduceDiv, Nat.reduceMod, Nat.reducePow, Nat.reduceBEq, Nat.reduceGT, reduceIte, j3, j5, T1, T3, T5, T38, T93, cvi_64 Try.underlying3 Try.underlying93, cv64_8 Try.underlying93 Try.underlying5, K0_0, K1_4] <;> rfl) | ((repeat (first | (simp (maxDischargeDepth := 9) only [RA, Nat.reduceEqDiff, Nat.reduceLT, Nat.reduceLeDiff, Nat.reduceAdd, Nat.reduceSub, Nat.reduceMul, Nat.reduceDiv, Nat.reduceMod, Nat.reducePow, Nat.reduceBEq, Nat.reduceGT, reduceIte, j3, j5, T1, T3, T5, T38, T93, cvi_64 Try.underlying3 Try.underlying93, cv64_8 Try.underlying93 Try.underlying5, K0_0, K1_4]; done) | simp (maxDischargeDepth := 9) only [RA, Nat.reduceEqDiff, Nat.reduceLT, Nat.reduceLeDiff, Nat.reduceAdd, Nat.reduceSub, Nat.reduceMul, Nat.reduceDiv, Nat.reduceMod, Nat.reducePow, Nat.reduceBEq, Nat.reduceGT, reduceIte, j3, j5, T1, T3, T5, T38, T93, cvi_64 Try.underlying3 Try.underlying93, cv64_8 Try.underlying93 Try.underlying5, K0_0, K1_4] | simp (disch := first | assumption | omega) only [RV, j3, j5, T1, T3, T5, T38, T93, cvi_64 Try.underlying3 Try.underlying93, cv64_8 Try.underlying93 Try.underlying5, K0_0, K1_4])) <;> rfl)))
        | (apply R_cond
           · (simp only [RE, Nat.reduceEqDiff, Nat.reduceLT, Nat.reduceLeDiff, Nat.reduceBEq, reduceIte, j3, j5, T1, T3, T5, T38, T93, cvi_64 Try.underlying3 Try.underlying93, cv64_8 Try.underlying93 Try.underlying5, K0_0, K1_4] <;> rfl))
        | (apply R_grd
           · (simp only [yieldedA, RY, Nat.reduceEqDiff, reduceIte, j3, j5, T1, T3, T5, T38, T93, cvi_64 Try.underlying3 Try.underlying93, cv64_8 Try.underlying93 Try.underlying5, K0_0, K1_4] <;> rfl)))
      refine ⟨.inr rfl, _, rfl, ?_, F4⟩
      (try simp only [List.map_cons, List.map_nil, RH, Nat.reduceAdd, Nat.reduceEqDiff, reduceIte, ev_tmp, ev_const, lit_iv, lit_w8, lit_w32, lit_w64, envOf0, envOf1, envOf2, envOf3, envOf4, envOf5, packR, T1, T3, T5, T38, T93, cvi_64 Try.underlying3 Try.underlying93, cv64_8 Try.underlying93 Try.underlying5, K0_0, K1_4])
      exact own4
end Go.Proofs.Ytfehhihllenjiaa
