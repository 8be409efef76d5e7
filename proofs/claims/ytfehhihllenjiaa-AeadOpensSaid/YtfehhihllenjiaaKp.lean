/- One-time tags: the document's first half of a key. -/
import Derived.Test.YtfehhihllenjiaaKk
set_option linter.all false
namespace Go.Proofs.Ytfehhihllenjiaa
open Go.Proofs
theorem w8_rem {P : Program} {t : TypeId} {l : Bool} (x y : BitVec 8) (h : y ≠ 0) : evBin P .rem t l (w8 x) (w8 y) = some (w8 (x % y)) := by
  refine (bin_int (by decide)).trans ?_
  have hy : y.toNat ≠ 0 := fun hh => h (BitVec.eq_of_toNat_eq (by simpa using hh))
  have hy2 : (y.toNat : Int) ≠ 0 := by omega
  have hx := x.isLt
  have e : ((x.toNat : Int)).tmod (y.toNat : Int) = ((x % y).toNat : Int) := by
    rw [BitVec.toNat_umod]
    exact (Int.ofNat_tmod _ _).symm
  unfold evIntOp w8
  simp [hy2, e, wrapU_nat (k := .u8) rfl]
  exact hy
theorem rem16 (x : BitVec 8) : x % 16#8 = x &&& 15#8 := by
  apply BitVec.eq_of_toNat_eq
  rw [BitVec.toNat_umod, BitVec.toNat_and]
  exact (Nat.and_two_pow_sub_one_eq_mod x.toNat 4).symm
theorem quo4 (x : BitVec 8) : x / 4#8 * 4#8 = x &&& ~~~3#8 := by
  revert x; decide
theorem w8_rem16 {P : Program} {t : TypeId} {l : Bool} (x : BitVec 8) : evBin P .rem t l (w8 x) (w8 16#8) = some (w8 (x &&& 15#8)) := by rw [w8_rem x 16#8 (by decide), rem16]
theorem w8_quo4 {P : Program} {t : TypeId} {l : Bool} (x : BitVec 8) : evBin P .quo t l (w8 x) (w8 4#8) = some (w8 (x / 4#8)) := w8_quo x 4#8 (by decide)
attribute [local irreducible] evOps iter evD evF evC evLoad evStore evAlloc evIndexAddr evIndex evLenB evBox evBin evUn evConvert evExtract evSlice evAppend evCopy evNil evBuild evMakeSlice evBuildSlice evBuiltin Program.underlying
attribute [local irreducible] polyT pkL pbL ptL clampB cpy
theorem inl66 : inlOf Try.prog 66 = true := by kernel_rfl
theorem iso66 : isoOf Try.prog 66 = true := by kernel_rfl
set_option maxRecDepth 20000 in
set_option maxHeartbeats 8000000 in
theorem clamp66 (n : Nat) (k : List (BitVec 8)) (hk : k.length = 32) (h : Heap) : fcall Try.prog (n + 2) (.func (.func 66) #[] #[]) [.agg ⟨b8 k⟩] h = some (.ok (.agg ⟨b8 (clampB k)⟩), h) := by
  rw [fcall_iso inl66 iso66]
  have : ∃ v h1, evF (cfg0 Try.prog) (n + 1 + 1) 66 [.agg ⟨b8 k⟩] ⟨fun _ => none, 0⟩ = some (.ok v, h1) ∧ v = (.agg ⟨b8 (clampB k)⟩) := by
    rw [evF_eq Try.func66 rfl]
    apply evEnd_of_W
    simp only [Try.f66]
    repeat (first
      | refine R_seq ?_ | refine R_region ?_ | refine R_nil ?_ | refine Q_seq ?_ | refine Q_norm ?_ | refine Q_seqr ?_ | refine Q_seqx ?_ | refine Q_bl ?_ | refine Q_blr ?_ | refine Q_blx ?_ | refine Q_blo rfl ?_ | refine R_block ?_ | refine R_skip ?_ | refine R_exit ?_ | refine R_ret ?_ | refine I_true ?_ | refine I_false ?_ | refine N_exit ?_ | refine N_ret ?_
      | ((first | apply R_op | apply R_op0)
         · ((repeat (first | simp (maxDischargeDepth := 9) only [RA, Nat.reduceEqDiff, Nat.reduceLT, Nat.reduceLeDiff, Nat.reduceAdd, Nat.reduceSub, Nat.reduceMul, Nat.reduceDiv, Nat.reduceMod, Nat.reducePow, Nat.reduceBEq, Nat.reduceGT, reduceIte, hk, T3, T5, T30, T56] | simp (disch := first | assumption | omega) only [RV, hk])) <;> rfl))
      | (apply R_cond
         · (simp only [RE, Nat.reduceEqDiff, Nat.reduceLT, Nat.reduceLeDiff, Nat.reduceBEq, reduceIte] <;> rfl))
      | (apply R_grd
         · (simp only [yieldedA, RY, Nat.reduceEqDiff, reduceIte] <;> rfl)))
    have hcl := clampB_length k
    refine W_loopK [1, 2, 3] [0] (fun i e1 h1 => e1 4 = iv i ∧ h1.obj 2 = some (.row .rw 1 (b8 (cpy (clampB k) 16 i))) ∧ h1.obj 1 = some (.row .rw 1 (b8 (List.replicate 16 0#8)))) 16 (by decide) ?_ ?_ ?_
    · refine ⟨by (try simp only [List.map_cons, List.map_nil, RH, Nat.reduceAdd, Nat.reduceEqDiff, reduceIte, ev_tmp, ev_const, lit_iv, lit_w8, lit_w32, lit_w64, envOf0, envOf1, envOf2, envOf3, envOf4, envOf5, T3, T5, T30, T56]), ?_, ?_⟩
      · simp [RH, cpy_zero, rep8]
      · simp [RH, rep8]
    · intro i hi e1 h1 hK hO hN ⟨j4, o2, o1⟩
      simp only [List.map_cons, List.map_nil, List.cons.injEq, and_true, RH, Nat.reduceAdd, Nat.reduceEqDiff, reduceIte, envOf0, envOf1, envOf2, envOf3, envOf4, envOf5] at hK
      obtain ⟨K0_1, K0_2, K0_3⟩ := hK
      simp only [List.map_cons, List.map_nil, List.cons.injEq, and_true, RH, Nat.reduceAdd, Nat.reduceEqDiff, reduceIte, envOf0, envOf1, envOf2, envOf3, envOf4, envOf5] at hO
      have O0_0 := hO
      try simp only [RH] at hN
      have hll := cpy_length (xs := clampB k) (n := 16) (i := i) (by omega) (by omega)
      have hcs := cpy_set (xs := clampB k) (n := 16) (i := i) hi (by omega)
      rw [clampB_get k hi] at hcs
      have hi32 : i < 32 := by omega
      generalize cpy (clampB k) 16 i = L at o2 hll hcs
      rcases (show i % 4 = 3 ∨ (i % 4 = 0 ∧ 0 < i) ∨ i = 0 ∨ (¬ i % 4 = 3 ∧ ¬ i % 4 = 0) by omega) with h3 | ⟨h3, h0⟩ | h3 | ⟨h3, h0⟩
      · have e3 : (i % 4 = 0) = False := eq_false (by omega)
        have hc : clampAt i (k.getD i 0#8) = k.getD i 0#8 &&& 15#8 := if_pos h3
        rw [hc] at hcs
        repeat (first
          | refine R_seq ?_ | refine R_region ?_ | refine R_nil ?_ | refine Q_seq ?_ | refine Q_norm ?_ | refine Q_seqr ?_ | refine Q_seqx ?_ | refine Q_bl ?_ | refine Q_blr ?_ | refine Q_blx ?_ | refine Q_blo rfl ?_ | refine R_block ?_ | refine R_skip ?_ | refine R_exit ?_ | refine R_ret ?_ | refine I_true ?_ | refine I_false ?_ | refine N_exit ?_ | refine N_ret ?_
          | ((first | apply R_op | apply R_op0)
             · ((repeat (first | simp (maxDischargeDepth := 9) only [RA, Nat.reduceEqDiff, Nat.reduceLT, Nat.reduceLeDiff, Nat.reduceAdd, Nat.reduceSub, Nat.reduceMul, Nat.reduceDiv, Nat.reduceMod, Nat.reducePow, Nat.reduceBEq, Nat.reduceGT, reduceIte, j4, hi, hi32, o2, hll, hk, eq_true h3, e3, w8_rem16, List.set_set, hcs, T3, T5, T30, T56, K0_1, K0_2, K0_3, O0_0] | simp (disch := first | assumption | omega) only [RV, j4, hi, hi32, o2, hll, hk, eq_true h3, e3, w8_rem16, List.set_set, hcs, K0_1, K0_2, K0_3, O0_0])) <;> rfl))
          | (apply R_cond
             · (simp only [RE, Nat.reduceEqDiff, Nat.reduceLT, Nat.reduceLeDiff, Nat.reduceBEq, reduceIte] <;> rfl))
          | (apply R_grd
             · (simp only [yieldedA, RY, Nat.reduceEqDiff, reduceIte] <;> rfl)))
        refine ⟨rfl, by first | rfl | simp only [List.map_cons, List.map_nil, RH, Nat.reduceAdd, Nat.reduceEqDiff, reduceIte, T3, T5, T30, T56, K0_1, K0_2, K0_3, O0_0], by first | rfl | simp only [List.map_cons, List.map_nil, RH, Nat.reduceAdd, Nat.reduceEqDiff, reduceIte, T3, T5, T30, T56, K0_1, K0_2, K0_3, O0_0], by first | (simp only [RH, T3, T5, T30, T56, K0_1, K0_2, K0_3, O0_0]; done) | ((try simp only [RH, T3, T5, T30, T56, K0_1, K0_2, K0_3, O0_0]); omega), ?_⟩
        exact ⟨by (try simp only [List.map_cons, List.map_nil, RH, Nat.reduceAdd, Nat.reduceEqDiff, reduceIte, ev_tmp, ev_const, lit_iv, lit_w8, lit_w32, lit_w64, envOf0, envOf1, envOf2, envOf3, envOf4, envOf5, T3, T5, T30, T56, K0_1, K0_2, K0_3, O0_0]), by simp [RH], by simp [RH, o1]⟩
      · have e3 : (i % 4 = 3) = False := eq_false (by omega)
        have hc : clampAt i (k.getD i 0#8) = k.getD i 0#8 &&& ~~~3#8 := by unfold clampAt; rw [if_neg (by omega), if_pos ⟨h3, h0⟩]
        rw [hc] at hcs
        repeat (first
          | refine R_seq ?_ | refine R_region ?_ | refine R_nil ?_ | refine Q_seq ?_ | refine Q_norm ?_ | refine Q_seqr ?_ | refine Q_seqx ?_ | refine Q_bl ?_ | refine Q_blr ?_ | refine Q_blx ?_ | refine Q_blo rfl ?_ | refine R_block ?_ | refine R_skip ?_ | refine R_exit ?_ | refine R_ret ?_ | refine I_true ?_ | refine I_false ?_ | refine N_exit ?_ | refine N_ret ?_
          | ((first | apply R_op | apply R_op0)
             · ((repeat (first | simp (maxDischargeDepth := 9) only [RA, Nat.reduceEqDiff, Nat.reduceLT, Nat.reduceLeDiff, Nat.reduceAdd, Nat.reduceSub, Nat.reduceMul, Nat.reduceDiv, Nat.reduceMod, Nat.reducePow, Nat.reduceBEq, Nat.reduceGT, reduceIte, j4, hi, hi32, o2, hll, hk, eq_true h3, eq_true h0, e3, w8_quo4, quo4, List.set_set, hcs, T3, T5, T30, T56, K0_1, K0_2, K0_3, O0_0] | simp (disch := first | assumption | omega) only [RV, j4, hi, hi32, o2, hll, hk, eq_true h3, eq_true h0, e3, w8_quo4, quo4, List.set_set, hcs, K0_1, K0_2, K0_3, O0_0])) <;> rfl))
          | (apply R_cond
             · (simp only [RE, Nat.reduceEqDiff, Nat.reduceLT, Nat.reduceLeDiff, Nat.reduceBEq, reduceIte] <;> rfl))
          | (apply R_grd
             · (simp only [yieldedA, RY, Nat.reduceEqDiff, reduceIte] <;> rfl)))
        refine ⟨rfl, by first | rfl | simp only [List.map_cons, List.map_nil, RH, Nat.reduceAdd, Nat.reduceEqDiff, reduceIte, T3, T5, T30, T56, K0_1, K0_2, K0_3, O0_0], by first | rfl | simp only [List.map_cons, List.map_nil, RH, Nat.reduceAdd, Nat.reduceEqDiff, reduceIte, T3, T5, T30, T56, K0_1, K0_2, K0_3, O0_0], by first | (simp only [RH, T3, T5, T30, T56, K0_1, K0_2, K0_3, O0_0]; done) | ((try simp only [RH, T3, T5, T30, T56, K0_1, K0_2, K0_3, O0_0]); omega), ?_⟩
        exact ⟨by (try simp only [List.map_cons, List.map_nil, RH, Nat.reduceAdd, Nat.reduceEqDiff, reduceIte, ev_tmp, ev_const, lit_iv, lit_w8, lit_w32, lit_w64, envOf0, envOf1, envOf2, envOf3, envOf4, envOf5, T3, T5, T30, T56, K0_1, K0_2, K0_3, O0_0]), by simp [RH], by simp [RH, o1]⟩
      · subst h3
        have hc : clampAt 0 (k.getD 0 0#8) = k.getD 0 0#8 := rfl
        rw [hc] at hcs
        repeat (first
          | refine R_seq ?_ | refine R_region ?_ | refine R_nil ?_ | refine Q_seq ?_ | refine Q_norm ?_ | refine Q_seqr ?_ | refine Q_seqx ?_ | refine Q_bl ?_ | refine Q_blr ?_ | refine Q_blx ?_ | refine Q_blo rfl ?_ | refine R_block ?_ | refine R_skip ?_ | refine R_exit ?_ | refine R_ret ?_ | refine I_true ?_ | refine I_false ?_ | refine N_exit ?_ | refine N_ret ?_
          | ((first | apply R_op | apply R_op0)
             · ((repeat (first | simp (maxDischargeDepth := 9) only [RA, Nat.reduceEqDiff, Nat.reduceLT, Nat.reduceLeDiff, Nat.reduceAdd, Nat.reduceSub, Nat.reduceMul, Nat.reduceDiv, Nat.reduceMod, Nat.reducePow, Nat.reduceBEq, Nat.reduceGT, reduceIte, j4, hi, hi32, o2, hll, hk, List.set_set, hcs, T3, T5, T30, T56, K0_1, K0_2, K0_3, O0_0] | simp (disch := first | assumption | omega) only [RV, j4, hi, hi32, o2, hll, hk, List.set_set, hcs, K0_1, K0_2, K0_3, O0_0])) <;> rfl))
          | (apply R_cond
             · (simp only [RE, Nat.reduceEqDiff, Nat.reduceLT, Nat.reduceLeDiff, Nat.reduceBEq, reduceIte] <;> rfl))
          | (apply R_grd
             · (simp only [yieldedA, RY, Nat.reduceEqDiff, reduceIte] <;> rfl)))
        refine ⟨rfl, by first | rfl | simp only [List.map_cons, List.map_nil, RH, Nat.reduceAdd, Nat.reduceEqDiff, reduceIte, T3, T5, T30, T56, K0_1, K0_2, K0_3, O0_0], by first | rfl | simp only [List.map_cons, List.map_nil, RH, Nat.reduceAdd, Nat.reduceEqDiff, reduceIte, T3, T5, T30, T56, K0_1, K0_2, K0_3, O0_0], by first | (simp only [RH, T3, T5, T30, T56, K0_1, K0_2, K0_3, O0_0]; done) | ((try simp only [RH, T3, T5, T30, T56, K0_1, K0_2, K0_3, O0_0]); omega), ?_⟩
        exact ⟨by (try simp only [List.map_cons, List.map_nil, RH, Nat.reduceAdd, Nat.reduceEqDiff, reduceIte, ev_tmp, ev_const, lit_iv, lit_w8, lit_w32, lit_w64, envOf0, envOf1, envOf2, envOf3, envOf4, envOf5, T3, T5, T30, T56, K0_1, K0_2, K0_3, O0_0]), by simp [RH], by simp [RH, o1]⟩
      · have e3 : (i % 4 = 3) = False := eq_false h3
        have e0 : (i % 4 = 0) = False := eq_false h0
        have hc : clampAt i (k.getD i 0#8) = k.getD i 0#8 := by unfold clampAt; rw [if_neg h3, if_neg (fun hh => h0 hh.1)]
        rw [hc] at hcs
        repeat (first
          | refine R_seq ?_ | refine R_region ?_ | refine R_nil ?_ | refine Q_seq ?_ | refine Q_norm ?_ | refine Q_seqr ?_ | refine Q_seqx ?_ | refine Q_bl ?_ | refine Q_blr ?_ | refine Q_blx ?_ | refine Q_blo rfl ?_ | refine R_block ?_ | refine R_skip ?_ | refine R_exit ?_ | refine R_ret ?_ | refine I_true ?_ | refine I_false ?_ | refine N_exit ?_ | refine N_ret ?_
          | ((first | apply R_op | apply R_op0)
             · ((repeat (first | simp (maxDischargeDepth := 9) only [RA, Nat.reduceEqDiff, Nat.reduceLT, Nat.reduceLeDiff, Nat.reduceAdd, Nat.reduceSub, Nat.reduceMul, Nat.reduceDiv, Nat.reduceMod, Nat.reducePow, Nat.reduceBEq, Nat.reduceGT, reduceIte, j4, hi, hi32, o2, hll, hk, e0, e3, List.set_set, hcs, T3, T5, T30, T56, K0_1, K0_2, K0_3, O0_0] | simp (disch := first | assumption | omega) only [RV, j4, hi, hi32, o2, hll, hk, e0, e3, List.set_set, hcs, K0_1, K0_2, K0_3, O0_0])) <;> rfl))
          | (apply R_cond
             · (simp only [RE, Nat.reduceEqDiff, Nat.reduceLT, Nat.reduceLeDiff, Nat.reduceBEq, reduceIte] <;> rfl))
          | (apply R_grd
             · (simp only [yieldedA, RY, Nat.reduceEqDiff, reduceIte] <;> rfl)))
        refine ⟨rfl, by first | rfl | simp only [List.map_cons, List.map_nil, RH, Nat.reduceAdd, Nat.reduceEqDiff, reduceIte, T3, T5, T30, T56, K0_1, K0_2, K0_3, O0_0], by first | rfl | simp only [List.map_cons, List.map_nil, RH, Nat.reduceAdd, Nat.reduceEqDiff, reduceIte, T3, T5, T30, T56, K0_1, K0_2, K0_3, O0_0], by first | (simp only [RH, T3, T5, T30, T56, K0_1, K0_2, K0_3, O0_0]; done) | ((try simp only [RH, T3, T5, T30, T56, K0_1, K0_2, K0_3, O0_0]); omega), ?_⟩
        exact ⟨by (try simp only [List.map_cons, List.map_nil, RH, Nat.reduceAdd, Nat.reduceEqDiff, reduceIte, ev_tmp, ev_const, lit_iv, lit_w8, lit_w32, lit_w64, envOf0, envOf1, envOf2, envOf3, envOf4, envOf5, T3, T5, T30, T56, K0_1, K0_2, K0_3, O0_0]), by simp [RH], by simp [RH, o1]⟩
    · intro e1 h1 hK hO hN ⟨j4, o2, o1⟩
      simp only [List.map_cons, List.map_nil, List.cons.injEq, and_true, RH, Nat.reduceAdd, Nat.reduceEqDiff, reduceIte, envOf0, envOf1, envOf2, envOf3, envOf4, envOf5] at hK
      obtain ⟨K0_1, K0_2, K0_3⟩ := hK
      simp only [List.map_cons, List.map_nil, List.cons.injEq, and_true, RH, Nat.reduceAdd, Nat.reduceEqDiff, reduceIte, envOf0, envOf1, envOf2, envOf3, envOf4, envOf5] at hO
      have O0_0 := hO
      try simp only [RH] at hN
      rw [cpy_full, List.take_of_length_le (by omega)] at o2
      repeat (first
        | refine R_seq ?_ | refine R_region ?_ | refine R_nil ?_ | refine Q_seq ?_ | refine Q_norm ?_ | refine Q_seqr ?_ | refine Q_seqx ?_ | refine Q_bl ?_ | refine Q_blr ?_ | refine Q_blx ?_ | refine Q_blo rfl ?_ | refine R_block ?_ | refine R_skip ?_ | refine R_exit ?_ | refine R_ret ?_ | refine I_true ?_ | refine I_false ?_ | refine N_exit ?_ | refine N_ret ?_
        | ((first | apply R_op | apply R_op0)
           · ((repeat (first | simp (maxDischargeDepth := 9) only [RA, Nat.reduceEqDiff, Nat.reduceLT, Nat.reduceLeDiff, Nat.reduceAdd, Nat.reduceSub, Nat.reduceMul, Nat.reduceDiv, Nat.reduceMod, Nat.reducePow, Nat.reduceBEq, Nat.reduceGT, reduceIte, j4, o2, o1, hcl, T3, T5, T30, T56, K0_1, K0_2, K0_3, O0_0] | simp (disch := first | assumption | omega) only [RV, j4, o2, o1, hcl, K0_1, K0_2, K0_3, O0_0])) <;> rfl))
        | (apply R_cond
           · (simp only [RE, Nat.reduceEqDiff, Nat.reduceLT, Nat.reduceLeDiff, Nat.reduceBEq, reduceIte] <;> rfl))
        | (apply R_grd
           · (simp only [yieldedA, RY, Nat.reduceEqDiff, reduceIte] <;> rfl)))
      (first | refine ⟨.inr rfl, ?_⟩ | refine ⟨.inl rfl, ?_⟩)
      simp only [evResultList, evResult, RA, Nat.reduceEqDiff, Nat.reduceLT, Nat.reduceLeDiff, Nat.reduceAdd, Nat.reduceSub, Nat.reduceMul, Nat.reduceDiv, Nat.reduceMod, Nat.reducePow, Nat.reduceBEq, Nat.reduceGT, reduceIte, cut8 hcl, T3, T5, T30, T56, K0_1, K0_2, K0_3, O0_0]
      refine ⟨_, rfl, ?_⟩
      rfl
  obtain ⟨v, h1, e1, rfl⟩ := this
  exact isoPhi_eq (by first | rfl | simp only [List.all_cons, List.all_nil, closed_agg8, closed_agg32, closed_w8, closed_w32, closed_w64, closed_iv, Bool.and_true]) (by first | rfl | simp only [closed_agg8, closed_agg32]) e1
end Go.Proofs.Ytfehhihllenjiaa
