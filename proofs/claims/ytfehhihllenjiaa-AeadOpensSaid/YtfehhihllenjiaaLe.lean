/- Tags: bytes that are alike. -/
import Derived.Test.YtfehhihllenjiaaTy
import Derived.Test.YtfehhihllenjiaaC5
import Derived.Test.YtfehhihllenjiaaS9
import Derived.KernelRfl
set_option linter.all false
namespace Go.Proofs.Ytfehhihllenjiaa
open Go.Proofs
attribute [local irreducible] evOps iter evD evF evC evLoad evStore evAlloc evIndexAddr evIndex evLenB evBox evBin evUn evConvert evExtract evSlice evAppend evCopy evNil evBuild evMakeSlice evBuildSlice evBuiltin Program.underlying
def eqA (a b : List (BitVec 8)) (j : Nat) : BitVec 8 := (List.range j).foldl (fun s i => s ||| (a.getD i 0#8 ^^^ b.getD i 0#8)) 0#8
theorem eqA_zero (a b : List (BitVec 8)) : eqA a b 0 = 0#8 := rfl
theorem eqA_succ (a b : List (BitVec 8)) (j : Nat) : eqA a b j ||| (a.getD j 0#8 ^^^ b.getD j 0#8) = eqA a b (j + 1) := by simp [eqA, List.range_succ]
theorem or8_zero {x y : BitVec 8} : x ||| y = 0#8 ↔ x = 0#8 ∧ y = 0#8 := by
  constructor
  · intro h
    have := h
    constructor
    · apply BitVec.eq_of_getLsbD_eq
      intro i hi
      have h2 := congrArg (fun z : BitVec 8 => z.getLsbD i) h
      simp at h2 ⊢
      exact h2.1
    · apply BitVec.eq_of_getLsbD_eq
      intro i hi
      have h2 := congrArg (fun z : BitVec 8 => z.getLsbD i) h
      simp at h2 ⊢
      exact h2.2
  · rintro ⟨rfl, rfl⟩; rfl
theorem xor8_zero {x y : BitVec 8} : x ^^^ y = 0#8 ↔ x = y := by
  constructor
  · intro h
    apply BitVec.eq_of_getLsbD_eq
    intro i hi
    have h2 := congrArg (fun z : BitVec 8 => z.getLsbD i) h
    simpa using h2
  · rintro rfl; simp
theorem eqA_iff (a b : List (BitVec 8)) (j : Nat) : eqA a b j = 0#8 ↔ ∀ i, i < j → a.getD i 0#8 = b.getD i 0#8 := by
  induction j with
  | zero => simp [eqA]
  | succ j ih =>
    rw [← eqA_succ, or8_zero, ih, xor8_zero]
    constructor
    · rintro ⟨h1, h2⟩ i hi
      by_cases hij : i = j
      · subst hij; exact h2
      · exact h1 i (by omega)
    · intro h1
      exact ⟨fun i hi => h1 i (by omega), h1 j (by omega)⟩
theorem eqA_eq {a b : List (BitVec 8)} (hl : a.length = b.length) : (eqA a b a.length = 0#8) ↔ a = b := by
  rw [eqA_iff]
  constructor
  · intro h1
    apply List.ext_getElem hl
    intro i h2 h3
    have := h1 i h2
    simpa [List.getD_eq_getElem?_getD, h2, h3] using this
  · rintro rfl i _; rfl
attribute [local irreducible] eqA
theorem inl73 : inlOf Try.prog 73 = true := by kernel_rfl
theorem iso73 : isoOf Try.prog 73 = false := by kernel_rfl
set_option maxRecDepth 20000 in
set_option maxHeartbeats 8000000 in
theorem equal73 (q : Nat) (h : Heap) (v w : Value) (a b : List (BitVec 8)) (ha : By h v a) (hb : By h w b) (hal : a.length ≤ 9223372036854775807) (hbl : b.length ≤ 9223372036854775807) :
    ∃ v' h', fcall Try.prog (q + 1) (.func (.func 73) #[] #[]) [v, w] h = some (.ok v', h') ∧ v' = .bool (decide (a = b)) ∧ Fr h.nx h h' := by
  rw [fcall_inl inl73 iso73, evF_eq Try.func73 rfl]
  apply evEnd_of_W
  simp only [Try.f73]
  by_cases hab : a.length = b.length
  · repeat (first
    | refine R_seq ?_ | refine R_region ?_ | refine R_nil ?_ | refine Q_seq ?_ | refine Q_norm ?_ | refine Q_seqr ?_ | refine Q_seqx ?_ | refine Q_bl ?_ | refine Q_blr ?_ | refine Q_blx ?_ | refine Q_blo rfl ?_ | refine R_block ?_ | refine R_skip ?_ | refine R_exit ?_ | refine R_ret ?_ | refine I_true ?_ | refine I_false ?_ | refine N_exit ?_ | refine N_ret ?_
    | (refine R_draw (by kernel_rfl) ?_)
    | ((first | apply R_op | apply R_op0)
       · ((repeat (first | simp (maxDischargeDepth := 9) only [RA, Nat.reduceEqDiff, Nat.reduceLT, Nat.reduceLeDiff, Nat.reduceAdd, Nat.reduceSub, Nat.reduceMul, Nat.reduceDiv, Nat.reduceMod, Nat.reducePow, Nat.reduceBEq, Nat.reduceGT, reduceIte, S38len ha, S38len hb, hab, T3, T5, T38] | simp (disch := first | assumption | omega) only [RV, S38len ha, S38len hb, hab])) <;> rfl))
    | (apply R_cond
       · (simp only [RE, Nat.reduceEqDiff, Nat.reduceLT, Nat.reduceLeDiff, Nat.reduceBEq, reduceIte] <;> rfl))
    | (apply R_grd
       · (simp only [yieldedA, RY, Nat.reduceEqDiff, reduceIte] <;> rfl)))
    refine W_loopK [1, 13, 14] [] (fun j e1 h1 => e1 15 = iv j ∧ e1 5 = w8 (eqA a b j) ∧ Fr h.nx h h1) b.length (by omega) ?_ ?_ ?_
    · exact ⟨by (try simp only [List.map_cons, List.map_nil, RH, Nat.reduceAdd, Nat.reduceEqDiff, reduceIte, ev_tmp, ev_const, lit_iv, lit_w8, lit_w32, lit_w64, envOf0, envOf1, envOf2, envOf3, envOf4, envOf5, T3, T5, T38]), by (try simp only [List.map_cons, List.map_nil, RH, Nat.reduceAdd, Nat.reduceEqDiff, reduceIte, ev_tmp, ev_const, lit_iv, lit_w8, lit_w32, lit_w64, envOf0, envOf1, envOf2, envOf3, envOf4, envOf5, eqA_zero, T3, T5, T38]), by (repeat (first | assumption | exact Fr.refl _ _ | refine Fr.new ?_ ?_ _ _ _ | refine Fr.put ?_ ?_ _ | omega | (simp only [RH]; omega)))⟩
    · intro j hj e1 h1 hK hO hN ⟨j15, j5, F1⟩
      simp only [List.map_cons, List.map_nil, List.cons.injEq, and_true, RH, Nat.reduceAdd, Nat.reduceEqDiff, reduceIte, envOf0, envOf1, envOf2, envOf3, envOf4, envOf5] at hK
      obtain ⟨K0_1, K0_13, K0_14⟩ := hK
      try simp only [RH] at hN
      have hja : j < a.length := by omega
      repeat (first
        | refine R_seq ?_ | refine R_region ?_ | refine R_nil ?_ | refine Q_seq ?_ | refine Q_norm ?_ | refine Q_seqr ?_ | refine Q_seqx ?_ | refine Q_bl ?_ | refine Q_blr ?_ | refine Q_blx ?_ | refine Q_blo rfl ?_ | refine R_block ?_ | refine R_skip ?_ | refine R_exit ?_ | refine R_ret ?_ | refine I_true ?_ | refine I_false ?_ | refine N_exit ?_ | refine N_ret ?_
        | (refine R_draw (by kernel_rfl) ?_)
        | ((first | apply R_op | apply R_op0)
           · ((repeat (first | simp (maxDischargeDepth := 9) only [RA, Nat.reduceEqDiff, Nat.reduceLT, Nat.reduceLeDiff, Nat.reduceAdd, Nat.reduceSub, Nat.reduceMul, Nat.reduceDiv, Nat.reduceMod, Nat.reducePow, Nat.reduceBEq, Nat.reduceGT, reduceIte, j15, j5, F1, hj, hja, S38len ha, S38ia ha, S38ld ha, S38h ha, S38l ha, S38lh ha, S38n ha, S38hm ha, S38lhm ha, S38str ha, RF, S38len hb, S38ia hb, S38ld hb, S38h hb, S38l hb, S38lh hb, S38n hb, S38hm hb, S38lhm hb, S38str hb, T3, T5, T38, K0_1, K0_13, K0_14] | simp (disch := first | assumption | omega) only [RV, j15, j5, F1, hj, hja, S38len ha, S38ia ha, S38ld ha, S38h ha, S38l ha, S38lh ha, S38n ha, S38hm ha, S38lhm ha, S38str ha, RF, S38len hb, S38ia hb, S38ld hb, S38h hb, S38l hb, S38lh hb, S38n hb, S38hm hb, S38lhm hb, S38str hb, K0_1, K0_13, K0_14])) <;> rfl))
        | (apply R_cond
           · (simp only [RE, Nat.reduceEqDiff, Nat.reduceLT, Nat.reduceLeDiff, Nat.reduceBEq, reduceIte] <;> rfl))
        | (apply R_grd
           · (simp only [yieldedA, RY, Nat.reduceEqDiff, reduceIte] <;> rfl)))
      refine ⟨rfl, by first | rfl | simp only [List.map_cons, List.map_nil, RH, Nat.reduceAdd, Nat.reduceEqDiff, reduceIte, T3, T5, T38, K0_1, K0_13, K0_14], by first | rfl | simp only [List.map_cons, List.map_nil, RH, Nat.reduceAdd, Nat.reduceEqDiff, reduceIte, T3, T5, T38, K0_1, K0_13, K0_14], by first | (simp only [RH, T3, T5, T38, K0_1, K0_13, K0_14]; done) | ((try simp only [RH, T3, T5, T38, K0_1, K0_13, K0_14]); omega), ?_⟩
      refine ⟨by (try simp only [List.map_cons, List.map_nil, RH, Nat.reduceAdd, Nat.reduceEqDiff, reduceIte, ev_tmp, ev_const, lit_iv, lit_w8, lit_w32, lit_w64, envOf0, envOf1, envOf2, envOf3, envOf4, envOf5, T3, T5, T38, K0_1, K0_13, K0_14]), ?_, F1⟩
      (try simp only [List.map_cons, List.map_nil, RH, Nat.reduceAdd, Nat.reduceEqDiff, reduceIte, ev_tmp, ev_const, lit_iv, lit_w8, lit_w32, lit_w64, envOf0, envOf1, envOf2, envOf3, envOf4, envOf5, eqA_succ, T3, T5, T38, K0_1, K0_13, K0_14])
    · intro e1 h1 hK hO hN ⟨j15, j5, F1⟩
      simp only [List.map_cons, List.map_nil, List.cons.injEq, and_true, RH, Nat.reduceAdd, Nat.reduceEqDiff, reduceIte, envOf0, envOf1, envOf2, envOf3, envOf4, envOf5] at hK
      obtain ⟨K0_1, K0_13, K0_14⟩ := hK
      try simp only [RH] at hN
      repeat (first
        | refine R_seq ?_ | refine R_region ?_ | refine R_nil ?_ | refine Q_seq ?_ | refine Q_norm ?_ | refine Q_seqr ?_ | refine Q_seqx ?_ | refine Q_bl ?_ | refine Q_blr ?_ | refine Q_blx ?_ | refine Q_blo rfl ?_ | refine R_block ?_ | refine R_skip ?_ | refine R_exit ?_ | refine R_ret ?_ | refine I_true ?_ | refine I_false ?_ | refine N_exit ?_ | refine N_ret ?_
        | (refine R_draw (by kernel_rfl) ?_)
        | ((first | apply R_op | apply R_op0)
           · ((repeat (first | simp (maxDischargeDepth := 9) only [RA, Nat.reduceEqDiff, Nat.reduceLT, Nat.reduceLeDiff, Nat.reduceAdd, Nat.reduceSub, Nat.reduceMul, Nat.reduceDiv, Nat.reduceMod, Nat.reducePow, Nat.reduceBEq, Nat.reduceGT, reduceIte, j15, j5, T3, T5, T38, K0_1, K0_13, K0_14] | simp (disch := first | assumption | omega) only [RV, j15, j5, K0_1, K0_13, K0_14])) <;> rfl))
        | (apply R_cond
           · (simp only [RE, Nat.reduceEqDiff, Nat.reduceLT, Nat.reduceLeDiff, Nat.reduceBEq, reduceIte] <;> rfl))
        | (apply R_grd
           · (simp only [yieldedA, RY, Nat.reduceEqDiff, reduceIte] <;> rfl)))
      refine ⟨.inr rfl, _, rfl, ?_, F1⟩
      (try simp only [List.map_cons, List.map_nil, RH, Nat.reduceAdd, Nat.reduceEqDiff, reduceIte, ev_tmp, ev_const, lit_iv, lit_w8, lit_w32, lit_w64, envOf0, envOf1, envOf2, envOf3, envOf4, envOf5, packR, T3, T5, T38, K0_1, K0_13, K0_14])
      have := eqA_eq hab
      rw [hab] at this
      simp only [← this]
  · have hne : ¬ a = b := fun hh => hab (by rw [hh])
    repeat (first
      | refine R_seq ?_ | refine R_region ?_ | refine R_nil ?_ | refine Q_seq ?_ | refine Q_norm ?_ | refine Q_seqr ?_ | refine Q_seqx ?_ | refine Q_bl ?_ | refine Q_blr ?_ | refine Q_blx ?_ | refine Q_blo rfl ?_ | refine R_block ?_ | refine R_skip ?_ | refine R_exit ?_ | refine R_ret ?_ | refine I_true ?_ | refine I_false ?_ | refine N_exit ?_ | refine N_ret ?_
      | (refine R_draw (by kernel_rfl) ?_)
      | ((first | apply R_op | apply R_op0)
         · ((repeat (first | simp (maxDischargeDepth := 9) only [RA, Nat.reduceEqDiff, Nat.reduceLT, Nat.reduceLeDiff, Nat.reduceAdd, Nat.reduceSub, Nat.reduceMul, Nat.reduceDiv, Nat.reduceMod, Nat.reducePow, Nat.reduceBEq, Nat.reduceGT, reduceIte, S38len ha, S38len hb, hab, T3, T5, T38] | simp (disch := first | assumption | omega) only [RV, S38len ha, S38len hb, hab])) <;> rfl))
      | (apply R_cond
         · (simp only [RE, Nat.reduceEqDiff, Nat.reduceLT, Nat.reduceLeDiff, Nat.reduceBEq, reduceIte] <;> rfl))
      | (apply R_grd
         · (simp only [yieldedA, RY, Nat.reduceEqDiff, reduceIte] <;> rfl)))
    first | refine ⟨.inr rfl, _, rfl, ?_, .refl _ _⟩ | refine ⟨_, rfl, ?_, .refl _ _⟩
    (try simp only [List.map_cons, List.map_nil, RH, Nat.reduceAdd, Nat.reduceEqDiff, reduceIte, ev_tmp, ev_const, lit_iv, lit_w8, lit_w32, lit_w64, envOf0, envOf1, envOf2, envOf3, envOf4, envOf5, packR, hne, decide_false, T3, T5, T38])
end Go.Proofs.Ytfehhihllenjiaa
