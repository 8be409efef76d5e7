/- One-time tags: a number is multiplied. -/
import Derived.Test.YtfehhihllenjiaaKf
set_option linter.all false
namespace Go.Proofs.Ytfehhihllenjiaa
open Go.Proofs
theorem mul64_ct (n : Nat) (x y : BitVec 64) (h : Heap) : ∃ v h', fcall Try.prog (n + 2) (.func (.func 117) #[] #[]) [w64 x, w64 y] h = some (.ok v, h') ∧ (∃ hi lo : BitVec 64, v = .tuple #[w64 hi, w64 lo] ∧ lo.toNat + 18446744073709551616 * hi.toNat = x.toNat * y.toNat) ∧ h' = h :=
  ⟨_, _, mul64_ev n x y h, ⟨mulHi x y, x * y, rfl, mul64 x y⟩, rfl⟩
theorem add64_ct (n : Nat) (x y : BitVec 64) (h : Heap) : ∃ v h', fcall Try.prog n (.func (.func 118) #[] #[]) [w64 x, w64 y, w64 0#64] h = some (.ok v, h') ∧ (∃ s c : BitVec 64, v = .tuple #[w64 s, w64 c] ∧ s.toNat + 18446744073709551616 * c.toNat = x.toNat + y.toNat) ∧ h' = h :=
  ⟨_, _, add64_0 n h x y, ⟨x + y + 0#64, addC x y 0#64, rfl, by have := addC_eq x y 0#64; simpa using this⟩, rfl⟩
def S5 (a b c d e : BitVec 64) : Nat := a.toNat + 18446744073709551616 * b.toNat + 340282366920938463463374607431768211456 * c.toNat + 6277101735386680763835789423207666416102355444464034512896 * d.toNat + 115792089237316195423570985008687907853269984665640564039457584007913129639936 * e.toNat
def xPart (x0 x1 x2 : BitVec 64) (i : Nat) : Nat := if i = 0 then 0 else if i = 1 then x0.toNat else if i = 2 then x0.toNat + 18446744073709551616 * x1.toNat else N3 x0 x1 x2
attribute [local irreducible] evOps iter evD evF evC evLoad evStore evAlloc evIndexAddr evIndex evLenB evBox evBin evUn evConvert evExtract evSlice evAppend evCopy evNil evBuild evMakeSlice evBuildSlice evBuiltin Program.underlying
attribute [local irreducible] mulHi addC
theorem inl101 : inlOf Try.prog 101 = true := by kernel_rfl
theorem iso101 : isoOf Try.prog 101 = false := by kernel_rfl
set_option maxRecDepth 20000 in
set_option maxHeartbeats 8000000 in
theorem times101 (q : Nat) (h : Heap) (p : Nat) (hp : p < h.nx) (x0 x1 x2 r0 r1 : BitVec 64) (ho : h.obj p = some (.row .rw 1 [w64 x0, w64 x1, w64 x2, w64 r0, w64 r1])) (hx : N3 x0 x1 x2 < 2041694201525630780780247644590609268736) (hr : N2 r0 r1 < 21267647932558653966460912964485513216) :
    ∃ v' h', fcall Try.prog (q + 4) (.func (.func 101) #[] #[]) [.pointer (some ⟨p, 0, none⟩)] h = some (.ok v', h') ∧ (∃ y0 y1 y2, h'.obj p = some (.row .rw 1 [w64 y0, w64 y1, w64 y2, w64 r0, w64 r1]) ∧ N3 y0 y1 y2 < Q130 ∧ N3 y0 y1 y2 % P130 = (N3 x0 x1 x2 * N2 r0 r1) % P130) ∧ h.nx ≤ h'.nx ∧ ∀ r, r ≠ p → r < h.nx → h'.obj r = h.obj r := by
  rw [fcall_inl inl101 iso101, evF_eq Try.func101 rfl]
  apply evEnd_of_W
  simp only [Try.f101]
  have hpe : (p = h.nx) = False := eq_false (by omega)
  have hpe2 : (h.nx = p) = False := eq_false (by omega)
  repeat (first
    | refine R_seq ?_ | refine R_region ?_ | refine R_nil ?_ | refine Q_seq ?_ | refine Q_norm ?_ | refine Q_seqr ?_ | refine Q_seqx ?_ | refine Q_bl ?_ | refine Q_blr ?_ | refine Q_blx ?_ | refine Q_blo rfl ?_ | refine R_block ?_ | refine R_skip ?_ | refine R_exit ?_ | refine R_ret ?_ | refine I_true ?_ | refine I_false ?_ | refine N_exit ?_ | refine N_ret ?_
    | ((first | apply R_op | apply R_op0)
       · ((repeat (first | simp (maxDischargeDepth := 9) only [RA, Nat.reduceEqDiff, Nat.reduceLT, Nat.reduceLeDiff, Nat.reduceAdd, Nat.reduceSub, Nat.reduceMul, Nat.reduceDiv, Nat.reduceMod, Nat.reducePow, Nat.reduceBEq, Nat.reduceGT, reduceIte, ho, hpe, hpe2, T1, T3, T93, T94, T102, T103, T105, T107, T128] | simp (disch := first | assumption | omega) only [RV, ho, hpe, hpe2])) <;> rfl))
    | (apply R_cond
       · (simp only [RE, Nat.reduceEqDiff, Nat.reduceLT, Nat.reduceLeDiff, Nat.reduceBEq, reduceIte] <;> rfl))
    | (apply R_grd
       · (simp only [yieldedA, RY, Nat.reduceEqDiff, reduceIte] <;> rfl)))
  refine W_loopK [0, 2, 17] [] (fun i e1 h1 => e1 18 = iv i ∧ (∃ p0 p1 p2 p3 p4, h1.obj h.nx = some (.row .rw 1 [w64 p0, w64 p1, w64 p2, w64 p3, w64 p4]) ∧ S5 p0 p1 p2 p3 p4 = xPart x0 x1 x2 i * N2 r0 r1 ∧ (i < 3 → p4 = 0#64) ∧ (i < 2 → p3 = 0#64) ∧ (i < 1 → p2 = 0#64)) ∧ h1.nx = h.nx + 1 ∧ ∀ r, r < h.nx → h1.obj r = h.obj r) 3 (by decide) ?_ ?_ ?_
  · refine ⟨by (try simp only [List.map_cons, List.map_nil, RH, Nat.reduceAdd, Nat.reduceEqDiff, reduceIte, ev_tmp, ev_const, lit_iv, lit_w8, lit_w32, lit_w64, envOf0, envOf1, envOf2, envOf3, envOf4, envOf5, T1, T3, T93, T94, T102, T103, T105, T107, T128]), ⟨0#64, 0#64, 0#64, 0#64, 0#64, ?_, ?_, fun _ => rfl, fun _ => rfl, fun _ => rfl⟩, ?_, ?_⟩
    · simp only [RH]; rfl
    · unfold S5 xPart; simp
    · simp only [RH]
    · intro r hr
      have : (r = h.nx) = False := eq_false (by omega)
      simp only [RH, this, reduceIte]
  · intro i hi e1 h1 hK hO hN ⟨j18, ⟨p0, p1, p2, p3, p4, oP, hS, z4, z3, z2⟩, n1, fx⟩
    simp only [List.map_cons, List.map_nil, List.cons.injEq, and_true, RH, Nat.reduceAdd, Nat.reduceEqDiff, reduceIte, envOf0, envOf1, envOf2, envOf3, envOf4, envOf5] at hK
    obtain ⟨K0_0, K0_2, K0_17⟩ := hK
    try simp only [RH] at hN
    have hop := fx p hp
    rw [ho] at hop
    replace K0_17 : e1 17 = .agg ⟨[w64 x0, w64 x1, w64 x2]⟩ := K0_17
    rcases (show i = 0 ∨ i = 1 ∨ i = 2 by omega) with rfl | rfl | rfl
    · clear hi
      have z4 := z4 (by decide)
      have z3 := z3 (by decide)
      have z2 := z2 (by decide)
      subst z4 z3 z2
      repeat (first
        | refine R_seq ?_ | refine R_region ?_ | refine R_nil ?_ | refine Q_seq ?_ | refine Q_norm ?_ | refine Q_seqr ?_ | refine Q_seqx ?_ | refine Q_bl ?_ | refine Q_blr ?_ | refine Q_blx ?_ | refine Q_blo rfl ?_ | refine R_block ?_ | refine R_skip ?_ | refine R_exit ?_ | refine R_ret ?_ | refine I_true ?_ | refine I_false ?_ | refine N_exit ?_ | refine N_ret ?_
        | ((first | apply R_op | apply R_op0)
           · ((repeat (first | simp (maxDischargeDepth := 9) only [RA, Nat.reduceEqDiff, Nat.reduceLT, Nat.reduceLeDiff, Nat.reduceAdd, Nat.reduceSub, Nat.reduceMul, Nat.reduceDiv, Nat.reduceMod, Nat.reducePow, Nat.reduceBEq, Nat.reduceGT, reduceIte, j18, hop, oP, hpe, hpe2, T1, T3, T93, T94, T102, T103, T105, T107, T128, K0_0, K0_2, K0_17] | simp (disch := first | assumption | omega) only [RV, j18, hop, oP, hpe, hpe2, K0_0, K0_2, K0_17])) <;> rfl))
        | (apply R_cond
           · (simp only [RE, Nat.reduceEqDiff, Nat.reduceLT, Nat.reduceLeDiff, Nat.reduceBEq, reduceIte] <;> rfl))
        | (apply R_grd
           · (simp only [yieldedA, RY, Nat.reduceEqDiff, reduceIte] <;> rfl))
        | refine R_loop ?_ | refine R_iter (by decide) ?_)
      refine R_fn ?_ (mul64_ct (q + 1) x0 r0 _) ?_
      · rfl
      rintro _ _ ⟨⟨hi0, lo0, rfl, hm0⟩, rfl⟩
      repeat (first
        | refine R_seq ?_ | refine R_region ?_ | refine R_nil ?_ | refine Q_seq ?_ | refine Q_norm ?_ | refine Q_seqr ?_ | refine Q_seqx ?_ | refine Q_bl ?_ | refine Q_blr ?_ | refine Q_blx ?_ | refine Q_blo rfl ?_ | refine R_block ?_ | refine R_skip ?_ | refine R_exit ?_ | refine R_ret ?_ | refine I_true ?_ | refine I_false ?_ | refine N_exit ?_ | refine N_ret ?_
        | ((first | apply R_op | apply R_op0)
           · ((repeat (first | simp (maxDischargeDepth := 9) only [RA, Nat.reduceEqDiff, Nat.reduceLT, Nat.reduceLeDiff, Nat.reduceAdd, Nat.reduceSub, Nat.reduceMul, Nat.reduceDiv, Nat.reduceMod, Nat.reducePow, Nat.reduceBEq, Nat.reduceGT, reduceIte, j18, hop, oP, hpe, hpe2, T1, T3, T93, T94, T102, T103, T105, T107, T128, K0_0, K0_2, K0_17] | simp (disch := first | assumption | omega) only [RV, j18, hop, oP, hpe, hpe2, K0_0, K0_2, K0_17])) <;> rfl))
        | (apply R_cond
           · (simp only [RE, Nat.reduceEqDiff, Nat.reduceLT, Nat.reduceLeDiff, Nat.reduceBEq, reduceIte] <;> rfl))
        | (apply R_grd
           · (simp only [yieldedA, RY, Nat.reduceEqDiff, reduceIte] <;> rfl))
        | refine R_loop ?_ | refine R_iter (by decide) ?_)
      refine R_fn ?_ (add64_ct (q + 3) lo0 (0#64) _) ?_
      · rfl
      rintro _ _ ⟨⟨s0, c0, rfl, ha0⟩, rfl⟩
      repeat (first
        | refine R_seq ?_ | refine R_region ?_ | refine R_nil ?_ | refine Q_seq ?_ | refine Q_norm ?_ | refine Q_seqr ?_ | refine Q_seqx ?_ | refine Q_bl ?_ | refine Q_blr ?_ | refine Q_blx ?_ | refine Q_blo rfl ?_ | refine R_block ?_ | refine R_skip ?_ | refine R_exit ?_ | refine R_ret ?_ | refine I_true ?_ | refine I_false ?_ | refine N_exit ?_ | refine N_ret ?_
        | ((first | apply R_op | apply R_op0)
           · ((repeat (first | simp (maxDischargeDepth := 9) only [RA, Nat.reduceEqDiff, Nat.reduceLT, Nat.reduceLeDiff, Nat.reduceAdd, Nat.reduceSub, Nat.reduceMul, Nat.reduceDiv, Nat.reduceMod, Nat.reducePow, Nat.reduceBEq, Nat.reduceGT, reduceIte, j18, hop, oP, hpe, hpe2, T1, T3, T93, T94, T102, T103, T105, T107, T128, K0_0, K0_2, K0_17] | simp (disch := first | assumption | omega) only [RV, j18, hop, oP, hpe, hpe2, K0_0, K0_2, K0_17])) <;> rfl))
        | (apply R_cond
           · (simp only [RE, Nat.reduceEqDiff, Nat.reduceLT, Nat.reduceLeDiff, Nat.reduceBEq, reduceIte] <;> rfl))
        | (apply R_grd
           · (simp only [yieldedA, RY, Nat.reduceEqDiff, reduceIte] <;> rfl))
        | refine R_loop ?_ | refine R_iter (by decide) ?_)
      refine R_fn ?_ (add64_ct (q + 3) (p0) s0 _) ?_
      · rfl
      rintro _ _ ⟨⟨t0, d0, rfl, hb0⟩, rfl⟩
      have m0 := madd hm0 ha0 hb0
      clear hm0 ha0 hb0
      repeat (first
        | refine R_seq ?_ | refine R_region ?_ | refine R_nil ?_ | refine Q_seq ?_ | refine Q_norm ?_ | refine Q_seqr ?_ | refine Q_seqx ?_ | refine Q_bl ?_ | refine Q_blr ?_ | refine Q_blx ?_ | refine Q_blo rfl ?_ | refine R_block ?_ | refine R_skip ?_ | refine R_exit ?_ | refine R_ret ?_ | refine I_true ?_ | refine I_false ?_ | refine N_exit ?_ | refine N_ret ?_
        | ((first | apply R_op | apply R_op0)
           · ((repeat (first | simp (maxDischargeDepth := 9) only [RA, Nat.reduceEqDiff, Nat.reduceLT, Nat.reduceLeDiff, Nat.reduceAdd, Nat.reduceSub, Nat.reduceMul, Nat.reduceDiv, Nat.reduceMod, Nat.reducePow, Nat.reduceBEq, Nat.reduceGT, reduceIte, j18, hop, oP, hpe, hpe2, T1, T3, T93, T94, T102, T103, T105, T107, T128, K0_0, K0_2, K0_17] | simp (disch := first | assumption | omega) only [RV, j18, hop, oP, hpe, hpe2, K0_0, K0_2, K0_17])) <;> rfl))
        | (apply R_cond
           · (simp only [RE, Nat.reduceEqDiff, Nat.reduceLT, Nat.reduceLeDiff, Nat.reduceBEq, reduceIte] <;> rfl))
        | (apply R_grd
           · (simp only [yieldedA, RY, Nat.reduceEqDiff, reduceIte] <;> rfl))
        | refine R_loop ?_ | refine R_iter (by decide) ?_)
      generalize hi0 + c0 + d0 = k1 at m0 ⊢
      repeat (first
        | refine R_seq ?_ | refine R_region ?_ | refine R_nil ?_ | refine Q_seq ?_ | refine Q_norm ?_ | refine Q_seqr ?_ | refine Q_seqx ?_ | refine Q_bl ?_ | refine Q_blr ?_ | refine Q_blx ?_ | refine Q_blo rfl ?_ | refine R_block ?_ | refine R_skip ?_ | refine R_exit ?_ | refine R_ret ?_ | refine I_true ?_ | refine I_false ?_ | refine N_exit ?_ | refine N_ret ?_
        | ((first | apply R_op | apply R_op0)
           · ((repeat (first | simp (maxDischargeDepth := 9) only [RA, Nat.reduceEqDiff, Nat.reduceLT, Nat.reduceLeDiff, Nat.reduceAdd, Nat.reduceSub, Nat.reduceMul, Nat.reduceDiv, Nat.reduceMod, Nat.reducePow, Nat.reduceBEq, Nat.reduceGT, reduceIte, j18, hop, oP, hpe, hpe2, T1, T3, T93, T94, T102, T103, T105, T107, T128, K0_0, K0_2, K0_17] | simp (disch := first | assumption | omega) only [RV, j18, hop, oP, hpe, hpe2, K0_0, K0_2, K0_17])) <;> rfl))
        | (apply R_cond
           · (simp only [RE, Nat.reduceEqDiff, Nat.reduceLT, Nat.reduceLeDiff, Nat.reduceBEq, reduceIte] <;> rfl))
        | (apply R_grd
           · (simp only [yieldedA, RY, Nat.reduceEqDiff, reduceIte] <;> rfl))
        | refine R_loop ?_ | refine R_iter (by decide) ?_)
      refine R_fn ?_ (mul64_ct (q + 1) x0 r1 _) ?_
      · rfl
      rintro _ _ ⟨⟨hi1, lo1, rfl, hm1⟩, rfl⟩
      repeat (first
        | refine R_seq ?_ | refine R_region ?_ | refine R_nil ?_ | refine Q_seq ?_ | refine Q_norm ?_ | refine Q_seqr ?_ | refine Q_seqx ?_ | refine Q_bl ?_ | refine Q_blr ?_ | refine Q_blx ?_ | refine Q_blo rfl ?_ | refine R_block ?_ | refine R_skip ?_ | refine R_exit ?_ | refine R_ret ?_ | refine I_true ?_ | refine I_false ?_ | refine N_exit ?_ | refine N_ret ?_
        | ((first | apply R_op | apply R_op0)
           · ((repeat (first | simp (maxDischargeDepth := 9) only [RA, Nat.reduceEqDiff, Nat.reduceLT, Nat.reduceLeDiff, Nat.reduceAdd, Nat.reduceSub, Nat.reduceMul, Nat.reduceDiv, Nat.reduceMod, Nat.reducePow, Nat.reduceBEq, Nat.reduceGT, reduceIte, j18, hop, oP, hpe, hpe2, T1, T3, T93, T94, T102, T103, T105, T107, T128, K0_0, K0_2, K0_17] | simp (disch := first | assumption | omega) only [RV, j18, hop, oP, hpe, hpe2, K0_0, K0_2, K0_17])) <;> rfl))
        | (apply R_cond
           · (simp only [RE, Nat.reduceEqDiff, Nat.reduceLT, Nat.reduceLeDiff, Nat.reduceBEq, reduceIte] <;> rfl))
        | (apply R_grd
           · (simp only [yieldedA, RY, Nat.reduceEqDiff, reduceIte] <;> rfl))
        | refine R_loop ?_ | refine R_iter (by decide) ?_)
      refine R_fn ?_ (add64_ct (q + 3) lo1 (k1) _) ?_
      · rfl
      rintro _ _ ⟨⟨s1, c1, rfl, ha1⟩, rfl⟩
      repeat (first
        | refine R_seq ?_ | refine R_region ?_ | refine R_nil ?_ | refine Q_seq ?_ | refine Q_norm ?_ | refine Q_seqr ?_ | refine Q_seqx ?_ | refine Q_bl ?_ | refine Q_blr ?_ | refine Q_blx ?_ | refine Q_blo rfl ?_ | refine R_block ?_ | refine R_skip ?_ | refine R_exit ?_ | refine R_ret ?_ | refine I_true ?_ | refine I_false ?_ | refine N_exit ?_ | refine N_ret ?_
        | ((first | apply R_op | apply R_op0)
           · ((repeat (first | simp (maxDischargeDepth := 9) only [RA, Nat.reduceEqDiff, Nat.reduceLT, Nat.reduceLeDiff, Nat.reduceAdd, Nat.reduceSub, Nat.reduceMul, Nat.reduceDiv, Nat.reduceMod, Nat.reducePow, Nat.reduceBEq, Nat.reduceGT, reduceIte, j18, hop, oP, hpe, hpe2, T1, T3, T93, T94, T102, T103, T105, T107, T128, K0_0, K0_2, K0_17] | simp (disch := first | assumption | omega) only [RV, j18, hop, oP, hpe, hpe2, K0_0, K0_2, K0_17])) <;> rfl))
        | (apply R_cond
           · (simp only [RE, Nat.reduceEqDiff, Nat.reduceLT, Nat.reduceLeDiff, Nat.reduceBEq, reduceIte] <;> rfl))
        | (apply R_grd
           · (simp only [yieldedA, RY, Nat.reduceEqDiff, reduceIte] <;> rfl))
        | refine R_loop ?_ | refine R_iter (by decide) ?_)
      refine R_fn ?_ (add64_ct (q + 3) (p1) s1 _) ?_
      · rfl
      rintro _ _ ⟨⟨t1, d1, rfl, hb1⟩, rfl⟩
      have m1 := madd hm1 ha1 hb1
      clear hm1 ha1 hb1
      repeat (first
        | refine R_seq ?_ | refine R_region ?_ | refine R_nil ?_ | refine Q_seq ?_ | refine Q_norm ?_ | refine Q_seqr ?_ | refine Q_seqx ?_ | refine Q_bl ?_ | refine Q_blr ?_ | refine Q_blx ?_ | refine Q_blo rfl ?_ | refine R_block ?_ | refine R_skip ?_ | refine R_exit ?_ | refine R_ret ?_ | refine I_true ?_ | refine I_false ?_ | refine N_exit ?_ | refine N_ret ?_
        | ((first | apply R_op | apply R_op0)
           · ((repeat (first | simp (maxDischargeDepth := 9) only [RA, Nat.reduceEqDiff, Nat.reduceLT, Nat.reduceLeDiff, Nat.reduceAdd, Nat.reduceSub, Nat.reduceMul, Nat.reduceDiv, Nat.reduceMod, Nat.reducePow, Nat.reduceBEq, Nat.reduceGT, reduceIte, j18, hop, oP, hpe, hpe2, T1, T3, T93, T94, T102, T103, T105, T107, T128, K0_0, K0_2, K0_17] | simp (disch := first | assumption | omega) only [RV, j18, hop, oP, hpe, hpe2, K0_0, K0_2, K0_17])) <;> rfl))
        | (apply R_cond
           · (simp only [RE, Nat.reduceEqDiff, Nat.reduceLT, Nat.reduceLeDiff, Nat.reduceBEq, reduceIte] <;> rfl))
        | (apply R_grd
           · (simp only [yieldedA, RY, Nat.reduceEqDiff, reduceIte] <;> rfl))
        | refine R_loop ?_ | refine R_iter (by decide) ?_)
      generalize hi1 + c1 + d1 = k2 at m1 ⊢
      repeat (first
        | refine R_seq ?_ | refine R_region ?_ | refine R_nil ?_ | refine Q_seq ?_ | refine Q_norm ?_ | refine Q_seqr ?_ | refine Q_seqx ?_ | refine Q_bl ?_ | refine Q_blr ?_ | refine Q_blx ?_ | refine Q_blo rfl ?_ | refine R_block ?_ | refine R_skip ?_ | refine R_exit ?_ | refine R_ret ?_ | refine I_true ?_ | refine I_false ?_ | refine N_exit ?_ | refine N_ret ?_
        | ((first | apply R_op | apply R_op0)
           · ((repeat (first | simp (maxDischargeDepth := 9) only [RA, Nat.reduceEqDiff, Nat.reduceLT, Nat.reduceLeDiff, Nat.reduceAdd, Nat.reduceSub, Nat.reduceMul, Nat.reduceDiv, Nat.reduceMod, Nat.reducePow, Nat.reduceBEq, Nat.reduceGT, reduceIte, j18, hop, oP, hpe, hpe2, T1, T3, T93, T94, T102, T103, T105, T107, T128, K0_0, K0_2, K0_17] | simp (disch := first | assumption | omega) only [RV, j18, hop, oP, hpe, hpe2, K0_0, K0_2, K0_17])) <;> rfl))
        | (apply R_cond
           · (simp only [RE, Nat.reduceEqDiff, Nat.reduceLT, Nat.reduceLeDiff, Nat.reduceBEq, reduceIte] <;> rfl))
        | (apply R_grd
           · (simp only [yieldedA, RY, Nat.reduceEqDiff, reduceIte] <;> rfl))
        | refine R_loop ?_ | refine R_iter (by decide) ?_)
      refine ⟨rfl, by first | rfl | simp only [List.map_cons, List.map_nil, RH, Nat.reduceAdd, Nat.reduceEqDiff, reduceIte, T1, T3, T93, T94, T102, T103, T105, T107, T128, K0_0, K0_2, K0_17], by first | rfl | simp only [List.map_cons, List.map_nil, RH, Nat.reduceAdd, Nat.reduceEqDiff, reduceIte, T1, T3, T93, T94, T102, T103, T105, T107, T128, K0_0, K0_2, K0_17], by first | (simp only [RH, T1, T3, T93, T94, T102, T103, T105, T107, T128, K0_0, K0_2, K0_17]; done) | ((try simp only [RH, T1, T3, T93, T94, T102, T103, T105, T107, T128, K0_0, K0_2, K0_17]); omega), ?_⟩
      refine ⟨by (try simp only [List.map_cons, List.map_nil, RH, Nat.reduceAdd, Nat.reduceEqDiff, reduceIte, ev_tmp, ev_const, lit_iv, lit_w8, lit_w32, lit_w64, envOf0, envOf1, envOf2, envOf3, envOf4, envOf5, T1, T3, T93, T94, T102, T103, T105, T107, T128, K0_0, K0_2, K0_17]), ⟨t0, t1, k2, 0#64, 0#64, ?_, ?_, fun hh => ?_, fun hh => ?_, fun hh => ?_⟩, ?_, ?_⟩
      · simp only [RH, BitVec.zero_add]
      · have hR : ∀ x : BitVec 64, x.toNat * N2 r0 r1 = x.toNat * r0.toNat + 18446744073709551616 * (x.toNat * r1.toNat) := fun x => by
          unfold N2; rw [Nat.mul_add, Nat.mul_left_comm]
        have e1 : xPart x0 x1 x2 (0 + 1) = x0.toNat := rfl
        have e0 : xPart x0 x1 x2 0 = 0 := rfl
        rw [e0] at hS
        rw [e1, hR]
        have z0 : (0#64).toNat = 0 := rfl
        unfold S5 at *
        rw [Nat.zero_mul] at hS
        generalize x0.toNat * r0.toNat = A at *
        generalize x0.toNat * r1.toNat = C at *
        rw [z0] at *
        omega
      · rfl
      · rfl
      · omega
      · simp only [RH]; exact n1
      · intro r hr
        have : (r = h.nx) = False := eq_false (by omega)
        simp only [RH, this, reduceIte]
        exact fx r hr
    · clear hi
      have z4 := z4 (by decide)
      have z3 := z3 (by decide)
      subst z4 z3
      clear z2
      repeat (first
        | refine R_seq ?_ | refine R_region ?_ | refine R_nil ?_ | refine Q_seq ?_ | refine Q_norm ?_ | refine Q_seqr ?_ | refine Q_seqx ?_ | refine Q_bl ?_ | refine Q_blr ?_ | refine Q_blx ?_ | refine Q_blo rfl ?_ | refine R_block ?_ | refine R_skip ?_ | refine R_exit ?_ | refine R_ret ?_ | refine I_true ?_ | refine I_false ?_ | refine N_exit ?_ | refine N_ret ?_
        | ((first | apply R_op | apply R_op0)
           · ((repeat (first | simp (maxDischargeDepth := 9) only [RA, Nat.reduceEqDiff, Nat.reduceLT, Nat.reduceLeDiff, Nat.reduceAdd, Nat.reduceSub, Nat.reduceMul, Nat.reduceDiv, Nat.reduceMod, Nat.reducePow, Nat.reduceBEq, Nat.reduceGT, reduceIte, j18, hop, oP, hpe, hpe2, T1, T3, T93, T94, T102, T103, T105, T107, T128, K0_0, K0_2, K0_17] | simp (disch := first | assumption | omega) only [RV, j18, hop, oP, hpe, hpe2, K0_0, K0_2, K0_17])) <;> rfl))
        | (apply R_cond
           · (simp only [RE, Nat.reduceEqDiff, Nat.reduceLT, Nat.reduceLeDiff, Nat.reduceBEq, reduceIte] <;> rfl))
        | (apply R_grd
           · (simp only [yieldedA, RY, Nat.reduceEqDiff, reduceIte] <;> rfl))
        | refine R_loop ?_ | refine R_iter (by decide) ?_)
      refine R_fn ?_ (mul64_ct (q + 1) x1 r0 _) ?_
      · rfl
      rintro _ _ ⟨⟨hi0, lo0, rfl, hm0⟩, rfl⟩
      repeat (first
        | refine R_seq ?_ | refine R_region ?_ | refine R_nil ?_ | refine Q_seq ?_ | refine Q_norm ?_ | refine Q_seqr ?_ | refine Q_seqx ?_ | refine Q_bl ?_ | refine Q_blr ?_ | refine Q_blx ?_ | refine Q_blo rfl ?_ | refine R_block ?_ | refine R_skip ?_ | refine R_exit ?_ | refine R_ret ?_ | refine I_true ?_ | refine I_false ?_ | refine N_exit ?_ | refine N_ret ?_
        | ((first | apply R_op | apply R_op0)
           · ((repeat (first | simp (maxDischargeDepth := 9) only [RA, Nat.reduceEqDiff, Nat.reduceLT, Nat.reduceLeDiff, Nat.reduceAdd, Nat.reduceSub, Nat.reduceMul, Nat.reduceDiv, Nat.reduceMod, Nat.reducePow, Nat.reduceBEq, Nat.reduceGT, reduceIte, j18, hop, oP, hpe, hpe2, T1, T3, T93, T94, T102, T103, T105, T107, T128, K0_0, K0_2, K0_17] | simp (disch := first | assumption | omega) only [RV, j18, hop, oP, hpe, hpe2, K0_0, K0_2, K0_17])) <;> rfl))
        | (apply R_cond
           · (simp only [RE, Nat.reduceEqDiff, Nat.reduceLT, Nat.reduceLeDiff, Nat.reduceBEq, reduceIte] <;> rfl))
        | (apply R_grd
           · (simp only [yieldedA, RY, Nat.reduceEqDiff, reduceIte] <;> rfl))
        | refine R_loop ?_ | refine R_iter (by decide) ?_)
      refine R_fn ?_ (add64_ct (q + 3) lo0 (0#64) _) ?_
      · rfl
      rintro _ _ ⟨⟨s0, c0, rfl, ha0⟩, rfl⟩
      repeat (first
        | refine R_seq ?_ | refine R_region ?_ | refine R_nil ?_ | refine Q_seq ?_ | refine Q_norm ?_ | refine Q_seqr ?_ | refine Q_seqx ?_ | refine Q_bl ?_ | refine Q_blr ?_ | refine Q_blx ?_ | refine Q_blo rfl ?_ | refine R_block ?_ | refine R_skip ?_ | refine R_exit ?_ | refine R_ret ?_ | refine I_true ?_ | refine I_false ?_ | refine N_exit ?_ | refine N_ret ?_
        | ((first | apply R_op | apply R_op0)
           · ((repeat (first | simp (maxDischargeDepth := 9) only [RA, Nat.reduceEqDiff, Nat.reduceLT, Nat.reduceLeDiff, Nat.reduceAdd, Nat.reduceSub, Nat.reduceMul, Nat.reduceDiv, Nat.reduceMod, Nat.reducePow, Nat.reduceBEq, Nat.reduceGT, reduceIte, j18, hop, oP, hpe, hpe2, T1, T3, T93, T94, T102, T103, T105, T107, T128, K0_0, K0_2, K0_17] | simp (disch := first | assumption | omega) only [RV, j18, hop, oP, hpe, hpe2, K0_0, K0_2, K0_17])) <;> rfl))
        | (apply R_cond
           · (simp only [RE, Nat.reduceEqDiff, Nat.reduceLT, Nat.reduceLeDiff, Nat.reduceBEq, reduceIte] <;> rfl))
        | (apply R_grd
           · (simp only [yieldedA, RY, Nat.reduceEqDiff, reduceIte] <;> rfl))
        | refine R_loop ?_ | refine R_iter (by decide) ?_)
      refine R_fn ?_ (add64_ct (q + 3) (p1) s0 _) ?_
      · rfl
      rintro _ _ ⟨⟨t0, d0, rfl, hb0⟩, rfl⟩
      have m0 := madd hm0 ha0 hb0
      clear hm0 ha0 hb0
      repeat (first
        | refine R_seq ?_ | refine R_region ?_ | refine R_nil ?_ | refine Q_seq ?_ | refine Q_norm ?_ | refine Q_seqr ?_ | refine Q_seqx ?_ | refine Q_bl ?_ | refine Q_blr ?_ | refine Q_blx ?_ | refine Q_blo rfl ?_ | refine R_block ?_ | refine R_skip ?_ | refine R_exit ?_ | refine R_ret ?_ | refine I_true ?_ | refine I_false ?_ | refine N_exit ?_ | refine N_ret ?_
        | ((first | apply R_op | apply R_op0)
           · ((repeat (first | simp (maxDischargeDepth := 9) only [RA, Nat.reduceEqDiff, Nat.reduceLT, Nat.reduceLeDiff, Nat.reduceAdd, Nat.reduceSub, Nat.reduceMul, Nat.reduceDiv, Nat.reduceMod, Nat.reducePow, Nat.reduceBEq, Nat.reduceGT, reduceIte, j18, hop, oP, hpe, hpe2, T1, T3, T93, T94, T102, T103, T105, T107, T128, K0_0, K0_2, K0_17] | simp (disch := first | assumption | omega) only [RV, j18, hop, oP, hpe, hpe2, K0_0, K0_2, K0_17])) <;> rfl))
        | (apply R_cond
           · (simp only [RE, Nat.reduceEqDiff, Nat.reduceLT, Nat.reduceLeDiff, Nat.reduceBEq, reduceIte] <;> rfl))
        | (apply R_grd
           · (simp only [yieldedA, RY, Nat.reduceEqDiff, reduceIte] <;> rfl))
        | refine R_loop ?_ | refine R_iter (by decide) ?_)
      generalize hi0 + c0 + d0 = k1 at m0 ⊢
      repeat (first
        | refine R_seq ?_ | refine R_region ?_ | refine R_nil ?_ | refine Q_seq ?_ | refine Q_norm ?_ | refine Q_seqr ?_ | refine Q_seqx ?_ | refine Q_bl ?_ | refine Q_blr ?_ | refine Q_blx ?_ | refine Q_blo rfl ?_ | refine R_block ?_ | refine R_skip ?_ | refine R_exit ?_ | refine R_ret ?_ | refine I_true ?_ | refine I_false ?_ | refine N_exit ?_ | refine N_ret ?_
        | ((first | apply R_op | apply R_op0)
           · ((repeat (first | simp (maxDischargeDepth := 9) only [RA, Nat.reduceEqDiff, Nat.reduceLT, Nat.reduceLeDiff, Nat.reduceAdd, Nat.reduceSub, Nat.reduceMul, Nat.reduceDiv, Nat.reduceMod, Nat.reducePow, Nat.reduceBEq, Nat.reduceGT, reduceIte, j18, hop, oP, hpe, hpe2, T1, T3, T93, T94, T102, T103, T105, T107, T128, K0_0, K0_2, K0_17] | simp (disch := first | assumption | omega) only [RV, j18, hop, oP, hpe, hpe2, K0_0, K0_2, K0_17])) <;> rfl))
        | (apply R_cond
           · (simp only [RE, Nat.reduceEqDiff, Nat.reduceLT, Nat.reduceLeDiff, Nat.reduceBEq, reduceIte] <;> rfl))
        | (apply R_grd
           · (simp only [yieldedA, RY, Nat.reduceEqDiff, reduceIte] <;> rfl))
        | refine R_loop ?_ | refine R_iter (by decide) ?_)
      refine R_fn ?_ (mul64_ct (q + 1) x1 r1 _) ?_
      · rfl
      rintro _ _ ⟨⟨hi1, lo1, rfl, hm1⟩, rfl⟩
      repeat (first
        | refine R_seq ?_ | refine R_region ?_ | refine R_nil ?_ | refine Q_seq ?_ | refine Q_norm ?_ | refine Q_seqr ?_ | refine Q_seqx ?_ | refine Q_bl ?_ | refine Q_blr ?_ | refine Q_blx ?_ | refine Q_blo rfl ?_ | refine R_block ?_ | refine R_skip ?_ | refine R_exit ?_ | refine R_ret ?_ | refine I_true ?_ | refine I_false ?_ | refine N_exit ?_ | refine N_ret ?_
        | ((first | apply R_op | apply R_op0)
           · ((repeat (first | simp (maxDischargeDepth := 9) only [RA, Nat.reduceEqDiff, Nat.reduceLT, Nat.reduceLeDiff, Nat.reduceAdd, Nat.reduceSub, Nat.reduceMul, Nat.reduceDiv, Nat.reduceMod, Nat.reducePow, Nat.reduceBEq, Nat.reduceGT, reduceIte, j18, hop, oP, hpe, hpe2, T1, T3, T93, T94, T102, T103, T105, T107, T128, K0_0, K0_2, K0_17] | simp (disch := first | assumption | omega) only [RV, j18, hop, oP, hpe, hpe2, K0_0, K0_2, K0_17])) <;> rfl))
        | (apply R_cond
           · (simp only [RE, Nat.reduceEqDiff, Nat.reduceLT, Nat.reduceLeDiff, Nat.reduceBEq, reduceIte] <;> rfl))
        | (apply R_grd
           · (simp only [yieldedA, RY, Nat.reduceEqDiff, reduceIte] <;> rfl))
        | refine R_loop ?_ | refine R_iter (by decide) ?_)
      refine R_fn ?_ (add64_ct (q + 3) lo1 (k1) _) ?_
      · rfl
      rintro _ _ ⟨⟨s1, c1, rfl, ha1⟩, rfl⟩
      repeat (first
        | refine R_seq ?_ | refine R_region ?_ | refine R_nil ?_ | refine Q_seq ?_ | refine Q_norm ?_ | refine Q_seqr ?_ | refine Q_seqx ?_ | refine Q_bl ?_ | refine Q_blr ?_ | refine Q_blx ?_ | refine Q_blo rfl ?_ | refine R_block ?_ | refine R_skip ?_ | refine R_exit ?_ | refine R_ret ?_ | refine I_true ?_ | refine I_false ?_ | refine N_exit ?_ | refine N_ret ?_
        | ((first | apply R_op | apply R_op0)
           · ((repeat (first | simp (maxDischargeDepth := 9) only [RA, Nat.reduceEqDiff, Nat.reduceLT, Nat.reduceLeDiff, Nat.reduceAdd, Nat.reduceSub, Nat.reduceMul, Nat.reduceDiv, Nat.reduceMod, Nat.reducePow, Nat.reduceBEq, Nat.reduceGT, reduceIte, j18, hop, oP, hpe, hpe2, T1, T3, T93, T94, T102, T103, T105, T107, T128, K0_0, K0_2, K0_17] | simp (disch := first | assumption | omega) only [RV, j18, hop, oP, hpe, hpe2, K0_0, K0_2, K0_17])) <;> rfl))
        | (apply R_cond
           · (simp only [RE, Nat.reduceEqDiff, Nat.reduceLT, Nat.reduceLeDiff, Nat.reduceBEq, reduceIte] <;> rfl))
        | (apply R_grd
           · (simp only [yieldedA, RY, Nat.reduceEqDiff, reduceIte] <;> rfl))
        | refine R_loop ?_ | refine R_iter (by decide) ?_)
      refine R_fn ?_ (add64_ct (q + 3) (p2) s1 _) ?_
      · rfl
      rintro _ _ ⟨⟨t1, d1, rfl, hb1⟩, rfl⟩
      have m1 := madd hm1 ha1 hb1
      clear hm1 ha1 hb1
      repeat (first
        | refine R_seq ?_ | refine R_region ?_ | refine R_nil ?_ | refine Q_seq ?_ | refine Q_norm ?_ | refine Q_seqr ?_ | refine Q_seqx ?_ | refine Q_bl ?_ | refine Q_blr ?_ | refine Q_blx ?_ | refine Q_blo rfl ?_ | refine R_block ?_ | refine R_skip ?_ | refine R_exit ?_ | refine R_ret ?_ | refine I_true ?_ | refine I_false ?_ | refine N_exit ?_ | refine N_ret ?_
        | ((first | apply R_op | apply R_op0)
           · ((repeat (first | simp (maxDischargeDepth := 9) only [RA, Nat.reduceEqDiff, Nat.reduceLT, Nat.reduceLeDiff, Nat.reduceAdd, Nat.reduceSub, Nat.reduceMul, Nat.reduceDiv, Nat.reduceMod, Nat.reducePow, Nat.reduceBEq, Nat.reduceGT, reduceIte, j18, hop, oP, hpe, hpe2, T1, T3, T93, T94, T102, T103, T105, T107, T128, K0_0, K0_2, K0_17] | simp (disch := first | assumption | omega) only [RV, j18, hop, oP, hpe, hpe2, K0_0, K0_2, K0_17])) <;> rfl))
        | (apply R_cond
           · (simp only [RE, Nat.reduceEqDiff, Nat.reduceLT, Nat.reduceLeDiff, Nat.reduceBEq, reduceIte] <;> rfl))
        | (apply R_grd
           · (simp only [yieldedA, RY, Nat.reduceEqDiff, reduceIte] <;> rfl))
        | refine R_loop ?_ | refine R_iter (by decide) ?_)
      generalize hi1 + c1 + d1 = k2 at m1 ⊢
      repeat (first
        | refine R_seq ?_ | refine R_region ?_ | refine R_nil ?_ | refine Q_seq ?_ | refine Q_norm ?_ | refine Q_seqr ?_ | refine Q_seqx ?_ | refine Q_bl ?_ | refine Q_blr ?_ | refine Q_blx ?_ | refine Q_blo rfl ?_ | refine R_block ?_ | refine R_skip ?_ | refine R_exit ?_ | refine R_ret ?_ | refine I_true ?_ | refine I_false ?_ | refine N_exit ?_ | refine N_ret ?_
        | ((first | apply R_op | apply R_op0)
           · ((repeat (first | simp (maxDischargeDepth := 9) only [RA, Nat.reduceEqDiff, Nat.reduceLT, Nat.reduceLeDiff, Nat.reduceAdd, Nat.reduceSub, Nat.reduceMul, Nat.reduceDiv, Nat.reduceMod, Nat.reducePow, Nat.reduceBEq, Nat.reduceGT, reduceIte, j18, hop, oP, hpe, hpe2, T1, T3, T93, T94, T102, T103, T105, T107, T128, K0_0, K0_2, K0_17] | simp (disch := first | assumption | omega) only [RV, j18, hop, oP, hpe, hpe2, K0_0, K0_2, K0_17])) <;> rfl))
        | (apply R_cond
           · (simp only [RE, Nat.reduceEqDiff, Nat.reduceLT, Nat.reduceLeDiff, Nat.reduceBEq, reduceIte] <;> rfl))
        | (apply R_grd
           · (simp only [yieldedA, RY, Nat.reduceEqDiff, reduceIte] <;> rfl))
        | refine R_loop ?_ | refine R_iter (by decide) ?_)
      refine ⟨rfl, by first | rfl | simp only [List.map_cons, List.map_nil, RH, Nat.reduceAdd, Nat.reduceEqDiff, reduceIte, T1, T3, T93, T94, T102, T103, T105, T107, T128, K0_0, K0_2, K0_17], by first | rfl | simp only [List.map_cons, List.map_nil, RH, Nat.reduceAdd, Nat.reduceEqDiff, reduceIte, T1, T3, T93, T94, T102, T103, T105, T107, T128, K0_0, K0_2, K0_17], by first | (simp only [RH, T1, T3, T93, T94, T102, T103, T105, T107, T128, K0_0, K0_2, K0_17]; done) | ((try simp only [RH, T1, T3, T93, T94, T102, T103, T105, T107, T128, K0_0, K0_2, K0_17]); omega), ?_⟩
      refine ⟨by (try simp only [List.map_cons, List.map_nil, RH, Nat.reduceAdd, Nat.reduceEqDiff, reduceIte, ev_tmp, ev_const, lit_iv, lit_w8, lit_w32, lit_w64, envOf0, envOf1, envOf2, envOf3, envOf4, envOf5, T1, T3, T93, T94, T102, T103, T105, T107, T128, K0_0, K0_2, K0_17]), ⟨p0, t0, t1, k2, 0#64, ?_, ?_, fun hh => ?_, fun hh => ?_, fun hh => ?_⟩, ?_, ?_⟩
      · simp only [RH, BitVec.zero_add]
      · have hR : ∀ x : BitVec 64, x.toNat * N2 r0 r1 = x.toNat * r0.toNat + 18446744073709551616 * (x.toNat * r1.toNat) := fun x => by
          unfold N2; rw [Nat.mul_add, Nat.mul_left_comm]
        have e1 : xPart x0 x1 x2 (1 + 1) = x0.toNat + 18446744073709551616 * x1.toNat := rfl
        have e0 : xPart x0 x1 x2 1 = x0.toNat := rfl
        rw [e0] at hS
        rw [e1, Nat.add_mul, ← hS, Nat.mul_assoc, hR]
        clear hS
        have z0 : (0#64).toNat = 0 := rfl
        unfold S5
        generalize x1.toNat * r0.toNat = A at *
        generalize x1.toNat * r1.toNat = C at *
        rw [z0] at *
        omega
      · rfl
      · omega
      · omega
      · simp only [RH]; exact n1
      · intro r hr
        have : (r = h.nx) = False := eq_false (by omega)
        simp only [RH, this, reduceIte]
        exact fx r hr
    · clear hi
      have z4 := z4 (by decide)
      subst z4
      clear z3 z2
      repeat (first
        | refine R_seq ?_ | refine R_region ?_ | refine R_nil ?_ | refine Q_seq ?_ | refine Q_norm ?_ | refine Q_seqr ?_ | refine Q_seqx ?_ | refine Q_bl ?_ | refine Q_blr ?_ | refine Q_blx ?_ | refine Q_blo rfl ?_ | refine R_block ?_ | refine R_skip ?_ | refine R_exit ?_ | refine R_ret ?_ | refine I_true ?_ | refine I_false ?_ | refine N_exit ?_ | refine N_ret ?_
        | ((first | apply R_op | apply R_op0)
           · ((repeat (first | simp (maxDischargeDepth := 9) only [RA, Nat.reduceEqDiff, Nat.reduceLT, Nat.reduceLeDiff, Nat.reduceAdd, Nat.reduceSub, Nat.reduceMul, Nat.reduceDiv, Nat.reduceMod, Nat.reducePow, Nat.reduceBEq, Nat.reduceGT, reduceIte, j18, hop, oP, hpe, hpe2, T1, T3, T93, T94, T102, T103, T105, T107, T128, K0_0, K0_2, K0_17] | simp (disch := first | assumption | omega) only [RV, j18, hop, oP, hpe, hpe2, K0_0, K0_2, K0_17])) <;> rfl))
        | (apply R_cond
           · (simp only [RE, Nat.reduceEqDiff, Nat.reduceLT, Nat.reduceLeDiff, Nat.reduceBEq, reduceIte] <;> rfl))
        | (apply R_grd
           · (simp only [yieldedA, RY, Nat.reduceEqDiff, reduceIte] <;> rfl))
        | refine R_loop ?_ | refine R_iter (by decide) ?_)
      refine R_fn ?_ (mul64_ct (q + 1) x2 r0 _) ?_
      · rfl
      rintro _ _ ⟨⟨hi0, lo0, rfl, hm0⟩, rfl⟩
      repeat (first
        | refine R_seq ?_ | refine R_region ?_ | refine R_nil ?_ | refine Q_seq ?_ | refine Q_norm ?_ | refine Q_seqr ?_ | refine Q_seqx ?_ | refine Q_bl ?_ | refine Q_blr ?_ | refine Q_blx ?_ | refine Q_blo rfl ?_ | refine R_block ?_ | refine R_skip ?_ | refine R_exit ?_ | refine R_ret ?_ | refine I_true ?_ | refine I_false ?_ | refine N_exit ?_ | refine N_ret ?_
        | ((first | apply R_op | apply R_op0)
           · ((repeat (first | simp (maxDischargeDepth := 9) only [RA, Nat.reduceEqDiff, Nat.reduceLT, Nat.reduceLeDiff, Nat.reduceAdd, Nat.reduceSub, Nat.reduceMul, Nat.reduceDiv, Nat.reduceMod, Nat.reducePow, Nat.reduceBEq, Nat.reduceGT, reduceIte, j18, hop, oP, hpe, hpe2, T1, T3, T93, T94, T102, T103, T105, T107, T128, K0_0, K0_2, K0_17] | simp (disch := first | assumption | omega) only [RV, j18, hop, oP, hpe, hpe2, K0_0, K0_2, K0_17])) <;> rfl))
        | (apply R_cond
           · (simp only [RE, Nat.reduceEqDiff, Nat.reduceLT, Nat.reduceLeDiff, Nat.reduceBEq, reduceIte] <;> rfl))
        | (apply R_grd
           · (simp only [yieldedA, RY, Nat.reduceEqDiff, reduceIte] <;> rfl))
        | refine R_loop ?_ | refine R_iter (by decide) ?_)
      refine R_fn ?_ (add64_ct (q + 3) lo0 (0#64) _) ?_
      · rfl
      rintro _ _ ⟨⟨s0, c0, rfl, ha0⟩, rfl⟩
      repeat (first
        | refine R_seq ?_ | refine R_region ?_ | refine R_nil ?_ | refine Q_seq ?_ | refine Q_norm ?_ | refine Q_seqr ?_ | refine Q_seqx ?_ | refine Q_bl ?_ | refine Q_blr ?_ | refine Q_blx ?_ | refine Q_blo rfl ?_ | refine R_block ?_ | refine R_skip ?_ | refine R_exit ?_ | refine R_ret ?_ | refine I_true ?_ | refine I_false ?_ | refine N_exit ?_ | refine N_ret ?_
        | ((first | apply R_op | apply R_op0)
           · ((repeat (first | simp (maxDischargeDepth := 9) only [RA, Nat.reduceEqDiff, Nat.reduceLT, Nat.reduceLeDiff, Nat.reduceAdd, Nat.reduceSub, Nat.reduceMul, Nat.reduceDiv, Nat.reduceMod, Nat.reducePow, Nat.reduceBEq, Nat.reduceGT, reduceIte, j18, hop, oP, hpe, hpe2, T1, T3, T93, T94, T102, T103, T105, T107, T128, K0_0, K0_2, K0_17] | simp (disch := first | assumption | omega) only [RV, j18, hop, oP, hpe, hpe2, K0_0, K0_2, K0_17])) <;> rfl))
        | (apply R_cond
           · (simp only [RE, Nat.reduceEqDiff, Nat.reduceLT, Nat.reduceLeDiff, Nat.reduceBEq, reduceIte] <;> rfl))
        | (apply R_grd
           · (simp only [yieldedA, RY, Nat.reduceEqDiff, reduceIte] <;> rfl))
        | refine R_loop ?_ | refine R_iter (by decide) ?_)
      refine R_fn ?_ (add64_ct (q + 3) (p2) s0 _) ?_
      · rfl
      rintro _ _ ⟨⟨t0, d0, rfl, hb0⟩, rfl⟩
      have m0 := madd hm0 ha0 hb0
      clear hm0 ha0 hb0
      repeat (first
        | refine R_seq ?_ | refine R_region ?_ | refine R_nil ?_ | refine Q_seq ?_ | refine Q_norm ?_ | refine Q_seqr ?_ | refine Q_seqx ?_ | refine Q_bl ?_ | refine Q_blr ?_ | refine Q_blx ?_ | refine Q_blo rfl ?_ | refine R_block ?_ | refine R_skip ?_ | refine R_exit ?_ | refine R_ret ?_ | refine I_true ?_ | refine I_false ?_ | refine N_exit ?_ | refine N_ret ?_
        | ((first | apply R_op | apply R_op0)
           · ((repeat (first | simp (maxDischargeDepth := 9) only [RA, Nat.reduceEqDiff, Nat.reduceLT, Nat.reduceLeDiff, Nat.reduceAdd, Nat.reduceSub, Nat.reduceMul, Nat.reduceDiv, Nat.reduceMod, Nat.reducePow, Nat.reduceBEq, Nat.reduceGT, reduceIte, j18, hop, oP, hpe, hpe2, T1, T3, T93, T94, T102, T103, T105, T107, T128, K0_0, K0_2, K0_17] | simp (disch := first | assumption | omega) only [RV, j18, hop, oP, hpe, hpe2, K0_0, K0_2, K0_17])) <;> rfl))
        | (apply R_cond
           · (simp only [RE, Nat.reduceEqDiff, Nat.reduceLT, Nat.reduceLeDiff, Nat.reduceBEq, reduceIte] <;> rfl))
        | (apply R_grd
           · (simp only [yieldedA, RY, Nat.reduceEqDiff, reduceIte] <;> rfl))
        | refine R_loop ?_ | refine R_iter (by decide) ?_)
      generalize hi0 + c0 + d0 = k1 at m0 ⊢
      repeat (first
        | refine R_seq ?_ | refine R_region ?_ | refine R_nil ?_ | refine Q_seq ?_ | refine Q_norm ?_ | refine Q_seqr ?_ | refine Q_seqx ?_ | refine Q_bl ?_ | refine Q_blr ?_ | refine Q_blx ?_ | refine Q_blo rfl ?_ | refine R_block ?_ | refine R_skip ?_ | refine R_exit ?_ | refine R_ret ?_ | refine I_true ?_ | refine I_false ?_ | refine N_exit ?_ | refine N_ret ?_
        | ((first | apply R_op | apply R_op0)
           · ((repeat (first | simp (maxDischargeDepth := 9) only [RA, Nat.reduceEqDiff, Nat.reduceLT, Nat.reduceLeDiff, Nat.reduceAdd, Nat.reduceSub, Nat.reduceMul, Nat.reduceDiv, Nat.reduceMod, Nat.reducePow, Nat.reduceBEq, Nat.reduceGT, reduceIte, j18, hop, oP, hpe, hpe2, T1, T3, T93, T94, T102, T103, T105, T107, T128, K0_0, K0_2, K0_17] | simp (disch := first | assumption | omega) only [RV, j18, hop, oP, hpe, hpe2, K0_0, K0_2, K0_17])) <;> rfl))
        | (apply R_cond
           · (simp only [RE, Nat.reduceEqDiff, Nat.reduceLT, Nat.reduceLeDiff, Nat.reduceBEq, reduceIte] <;> rfl))
        | (apply R_grd
           · (simp only [yieldedA, RY, Nat.reduceEqDiff, reduceIte] <;> rfl))
        | refine R_loop ?_ | refine R_iter (by decide) ?_)
      refine R_fn ?_ (mul64_ct (q + 1) x2 r1 _) ?_
      · rfl
      rintro _ _ ⟨⟨hi1, lo1, rfl, hm1⟩, rfl⟩
      repeat (first
        | refine R_seq ?_ | refine R_region ?_ | refine R_nil ?_ | refine Q_seq ?_ | refine Q_norm ?_ | refine Q_seqr ?_ | refine Q_seqx ?_ | refine Q_bl ?_ | refine Q_blr ?_ | refine Q_blx ?_ | refine Q_blo rfl ?_ | refine R_block ?_ | refine R_skip ?_ | refine R_exit ?_ | refine R_ret ?_ | refine I_true ?_ | refine I_false ?_ | refine N_exit ?_ | refine N_ret ?_
        | ((first | apply R_op | apply R_op0)
           · ((repeat (first | simp (maxDischargeDepth := 9) only [RA, Nat.reduceEqDiff, Nat.reduceLT, Nat.reduceLeDiff, Nat.reduceAdd, Nat.reduceSub, Nat.reduceMul, Nat.reduceDiv, Nat.reduceMod, Nat.reducePow, Nat.reduceBEq, Nat.reduceGT, reduceIte, j18, hop, oP, hpe, hpe2, T1, T3, T93, T94, T102, T103, T105, T107, T128, K0_0, K0_2, K0_17] | simp (disch := first | assumption | omega) only [RV, j18, hop, oP, hpe, hpe2, K0_0, K0_2, K0_17])) <;> rfl))
        | (apply R_cond
           · (simp only [RE, Nat.reduceEqDiff, Nat.reduceLT, Nat.reduceLeDiff, Nat.reduceBEq, reduceIte] <;> rfl))
        | (apply R_grd
           · (simp only [yieldedA, RY, Nat.reduceEqDiff, reduceIte] <;> rfl))
        | refine R_loop ?_ | refine R_iter (by decide) ?_)
      refine R_fn ?_ (add64_ct (q + 3) lo1 (k1) _) ?_
      · rfl
      rintro _ _ ⟨⟨s1, c1, rfl, ha1⟩, rfl⟩
      repeat (first
        | refine R_seq ?_ | refine R_region ?_ | refine R_nil ?_ | refine Q_seq ?_ | refine Q_norm ?_ | refine Q_seqr ?_ | refine Q_seqx ?_ | refine Q_bl ?_ | refine Q_blr ?_ | refine Q_blx ?_ | refine Q_blo rfl ?_ | refine R_block ?_ | refine R_skip ?_ | refine R_exit ?_ | refine R_ret ?_ | refine I_true ?_ | refine I_false ?_ | refine N_exit ?_ | refine N_ret ?_
        | ((first | apply R_op | apply R_op0)
           · ((repeat (first | simp (maxDischargeDepth := 9) only [RA, Nat.reduceEqDiff, Nat.reduceLT, Nat.reduceLeDiff, Nat.reduceAdd, Nat.reduceSub, Nat.reduceMul, Nat.reduceDiv, Nat.reduceMod, Nat.reducePow, Nat.reduceBEq, Nat.reduceGT, reduceIte, j18, hop, oP, hpe, hpe2, T1, T3, T93, T94, T102, T103, T105, T107, T128, K0_0, K0_2, K0_17] | simp (disch := first | assumption | omega) only [RV, j18, hop, oP, hpe, hpe2, K0_0, K0_2, K0_17])) <;> rfl))
        | (apply R_cond
           · (simp only [RE, Nat.reduceEqDiff, Nat.reduceLT, Nat.reduceLeDiff, Nat.reduceBEq, reduceIte] <;> rfl))
        | (apply R_grd
           · (simp only [yieldedA, RY, Nat.reduceEqDiff, reduceIte] <;> rfl))
        | refine R_loop ?_ | refine R_iter (by decide) ?_)
      refine R_fn ?_ (add64_ct (q + 3) (p3) s1 _) ?_
      · rfl
      rintro _ _ ⟨⟨t1, d1, rfl, hb1⟩, rfl⟩
      have m1 := madd hm1 ha1 hb1
      clear hm1 ha1 hb1
      repeat (first
        | refine R_seq ?_ | refine R_region ?_ | refine R_nil ?_ | refine Q_seq ?_ | refine Q_norm ?_ | refine Q_seqr ?_ | refine Q_seqx ?_ | refine Q_bl ?_ | refine Q_blr ?_ | refine Q_blx ?_ | refine Q_blo rfl ?_ | refine R_block ?_ | refine R_skip ?_ | refine R_exit ?_ | refine R_ret ?_ | refine I_true ?_ | refine I_false ?_ | refine N_exit ?_ | refine N_ret ?_
        | ((first | apply R_op | apply R_op0)
           · ((repeat (first | simp (maxDischargeDepth := 9) only [RA, Nat.reduceEqDiff, Nat.reduceLT, Nat.reduceLeDiff, Nat.reduceAdd, Nat.reduceSub, Nat.reduceMul, Nat.reduceDiv, Nat.reduceMod, Nat.reducePow, Nat.reduceBEq, Nat.reduceGT, reduceIte, j18, hop, oP, hpe, hpe2, T1, T3, T93, T94, T102, T103, T105, T107, T128, K0_0, K0_2, K0_17] | simp (disch := first | assumption | omega) only [RV, j18, hop, oP, hpe, hpe2, K0_0, K0_2, K0_17])) <;> rfl))
        | (apply R_cond
           · (simp only [RE, Nat.reduceEqDiff, Nat.reduceLT, Nat.reduceLeDiff, Nat.reduceBEq, reduceIte] <;> rfl))
        | (apply R_grd
           · (simp only [yieldedA, RY, Nat.reduceEqDiff, reduceIte] <;> rfl))
        | refine R_loop ?_ | refine R_iter (by decide) ?_)
      generalize hi1 + c1 + d1 = k2 at m1 ⊢
      repeat (first
        | refine R_seq ?_ | refine R_region ?_ | refine R_nil ?_ | refine Q_seq ?_ | refine Q_norm ?_ | refine Q_seqr ?_ | refine Q_seqx ?_ | refine Q_bl ?_ | refine Q_blr ?_ | refine Q_blx ?_ | refine Q_blo rfl ?_ | refine R_block ?_ | refine R_skip ?_ | refine R_exit ?_ | refine R_ret ?_ | refine I_true ?_ | refine I_false ?_ | refine N_exit ?_ | refine N_ret ?_
        | ((first | apply R_op | apply R_op0)
           · ((repeat (first | simp (maxDischargeDepth := 9) only [RA, Nat.reduceEqDiff, Nat.reduceLT, Nat.reduceLeDiff, Nat.reduceAdd, Nat.reduceSub, Nat.reduceMul, Nat.reduceDiv, Nat.reduceMod, Nat.reducePow, Nat.reduceBEq, Nat.reduceGT, reduceIte, j18, hop, oP, hpe, hpe2, T1, T3, T93, T94, T102, T103, T105, T107, T128, K0_0, K0_2, K0_17] | simp (disch := first | assumption | omega) only [RV, j18, hop, oP, hpe, hpe2, K0_0, K0_2, K0_17])) <;> rfl))
        | (apply R_cond
           · (simp only [RE, Nat.reduceEqDiff, Nat.reduceLT, Nat.reduceLeDiff, Nat.reduceBEq, reduceIte] <;> rfl))
        | (apply R_grd
           · (simp only [yieldedA, RY, Nat.reduceEqDiff, reduceIte] <;> rfl))
        | refine R_loop ?_ | refine R_iter (by decide) ?_)
      refine ⟨rfl, by first | rfl | simp only [List.map_cons, List.map_nil, RH, Nat.reduceAdd, Nat.reduceEqDiff, reduceIte, T1, T3, T93, T94, T102, T103, T105, T107, T128, K0_0, K0_2, K0_17], by first | rfl | simp only [List.map_cons, List.map_nil, RH, Nat.reduceAdd, Nat.reduceEqDiff, reduceIte, T1, T3, T93, T94, T102, T103, T105, T107, T128, K0_0, K0_2, K0_17], by first | (simp only [RH, T1, T3, T93, T94, T102, T103, T105, T107, T128, K0_0, K0_2, K0_17]; done) | ((try simp only [RH, T1, T3, T93, T94, T102, T103, T105, T107, T128, K0_0, K0_2, K0_17]); omega), ?_⟩
      refine ⟨by (try simp only [List.map_cons, List.map_nil, RH, Nat.reduceAdd, Nat.reduceEqDiff, reduceIte, ev_tmp, ev_const, lit_iv, lit_w8, lit_w32, lit_w64, envOf0, envOf1, envOf2, envOf3, envOf4, envOf5, T1, T3, T93, T94, T102, T103, T105, T107, T128, K0_0, K0_2, K0_17]), ⟨p0, p1, t0, t1, k2, ?_, ?_, fun hh => ?_, fun hh => ?_, fun hh => ?_⟩, ?_, ?_⟩
      · simp only [RH, BitVec.zero_add]
      · have hR : ∀ x : BitVec 64, x.toNat * N2 r0 r1 = x.toNat * r0.toNat + 18446744073709551616 * (x.toNat * r1.toNat) := fun x => by
          unfold N2; rw [Nat.mul_add, Nat.mul_left_comm]
        have e1 : xPart x0 x1 x2 (2 + 1) = x0.toNat + 18446744073709551616 * x1.toNat + 340282366920938463463374607431768211456 * x2.toNat := rfl
        have e0 : xPart x0 x1 x2 2 = x0.toNat + 18446744073709551616 * x1.toNat := rfl
        rw [e0] at hS
        rw [e1, Nat.add_mul _ (340282366920938463463374607431768211456 * x2.toNat), ← hS, Nat.mul_assoc, hR]
        clear hS
        have z0 : (0#64).toNat = 0 := rfl
        unfold S5
        generalize x2.toNat * r0.toNat = A at *
        generalize x2.toNat * r1.toNat = C at *
        rw [z0] at *
        omega
      · omega
      · omega
      · omega
      · simp only [RH]; exact n1
      · intro r hr
        have : (r = h.nx) = False := eq_false (by omega)
        simp only [RH, this, reduceIte]
        exact fx r hr
  · intro e1 h1 hK hO hN ⟨j18, ⟨p0, p1, p2, p3, p4, oP, hS, z4, z3, z2⟩, n1, fx⟩
    simp only [List.map_cons, List.map_nil, List.cons.injEq, and_true, RH, Nat.reduceAdd, Nat.reduceEqDiff, reduceIte, envOf0, envOf1, envOf2, envOf3, envOf4, envOf5] at hK
    obtain ⟨K0_0, K0_2, K0_17⟩ := hK
    try simp only [RH] at hN
    have hop := fx p hp
    rw [ho] at hop
    have hV : S5 p0 p1 p2 p3 p4 = N3 x0 x1 x2 * N2 r0 r1 := hS
    have hpq : (p = h.nx + 1) = False := eq_false (by omega)
    have hpq2 : (h.nx + 1 = p) = False := eq_false (by omega)
    repeat (first
      | refine R_seq ?_ | refine R_region ?_ | refine R_nil ?_ | refine Q_seq ?_ | refine Q_norm ?_ | refine Q_seqr ?_ | refine Q_seqx ?_ | refine Q_bl ?_ | refine Q_blr ?_ | refine Q_blx ?_ | refine Q_blo rfl ?_ | refine R_block ?_ | refine R_skip ?_ | refine R_exit ?_ | refine R_ret ?_ | refine I_true ?_ | refine I_false ?_ | refine N_exit ?_ | refine N_ret ?_
      | ((first | apply R_op | apply R_op0)
         · ((repeat (first | simp (maxDischargeDepth := 9) only [RA, Nat.reduceEqDiff, Nat.reduceLT, Nat.reduceLeDiff, Nat.reduceAdd, Nat.reduceSub, Nat.reduceMul, Nat.reduceDiv, Nat.reduceMod, Nat.reducePow, Nat.reduceBEq, Nat.reduceGT, reduceIte, j18, hop, oP, hpe, hpe2, n1, hpq, hpq2, bu103, T1, T3, T93, T94, T102, T103, T105, T107, T128, K0_0, K0_2, K0_17] | simp (disch := first | assumption | omega) only [RV, j18, hop, oP, hpe, hpe2, n1, hpq, hpq2, bu103, K0_0, K0_2, K0_17])) <;> rfl))
      | (apply R_cond
         · (simp only [RE, Nat.reduceEqDiff, Nat.reduceLT, Nat.reduceLeDiff, Nat.reduceBEq, reduceIte] <;> rfl))
      | (apply R_grd
         · (simp only [yieldedA, RY, Nat.reduceEqDiff, reduceIte] <;> rfl)))
    simp only [show (2#64).toNat = 2 from rfl, show (62#64).toNat = 62 from rfl]
    have hsp := split130 p0 p1 p2 p3 p4
    change S5 p0 p1 p2 p3 p4 = _ at hsp
    rw [hV] at hsp
    generalize p2 >>> 2 ||| p3 <<< 62 = a0 at hsp ⊢
    generalize p3 >>> 2 ||| p4 <<< 62 = a1 at hsp ⊢
    generalize p4 >>> 2 = a2 at hsp ⊢
    have hL : N3 p0 p1 (p2 &&& 3#64) < Q130 := by rw [N3_and]; exact Nat.mod_lt _ (by decide)
    generalize p2 &&& 3#64 = b2 at hsp hL ⊢
    have hA : 5 * N3 a0 a1 a2 < 170141183460469231731687303715884105728 := by
      have h1 : N3 x0 x1 x2 * N2 r0 r1 ≤ 2041694201525630780780247644590609268736 * 21267647932558653966460912964485513216 := Nat.mul_le_mul (by omega) (by omega)
      unfold Q130 at hsp
      omega
    have hmod := times_mod hsp
    generalize hLe : N3 p0 p1 b2 = LL at *
    generalize hAe : N3 a0 a1 a2 = AA at *
    refine W_heap fun H hH => ?_
    have oX : H.obj p = some (.row .rw 1 [w64 p0, w64 p1, w64 b2, w64 r0, w64 r1]) := by rw [hH]; simp only [RH, n1, hpq, reduceIte]; rfl
    have oA : H.obj (h.nx + 1) = some (.row .rw 1 [w64 a0, w64 a1, w64 a2]) := by rw [hH]; simp only [RH, n1]; rfl
    have nH : H.nx = h.nx + 2 := by rw [hH]; simp only [RH, n1]
    have fH : ∀ r, r ≠ p → r < h.nx → H.obj r = h.obj r := fun r hr hr2 => by
      have c1 : (r = h.nx + 1) = False := eq_false (by omega)
      have c2 : (r = p) = False := eq_false hr
      rw [hH]; simp only [RH, n1, c1, c2, reduceIte]; exact fx r hr2
    clear hH
    refine W_loopK [0, 11] [h.nx + 1] (fun i e2 h2 => e2 101 = iv i ∧ (∃ y0 y1 y2, h2.obj p = some (.row .rw 1 [w64 y0, w64 y1, w64 y2, w64 r0, w64 r1]) ∧ N3 y0 y1 y2 = LL + i * AA) ∧ h2.nx = h.nx + 2 ∧ ∀ r, r ≠ p → r < h.nx → h2.obj r = h.obj r) 5 (by decide) ?_ ?_ ?_
    · exact ⟨by (try simp only [List.map_cons, List.map_nil, RH, Nat.reduceAdd, Nat.reduceEqDiff, reduceIte, ev_tmp, ev_const, lit_iv, lit_w8, lit_w32, lit_w64, envOf0, envOf1, envOf2, envOf3, envOf4, envOf5, T1, T3, T93, T94, T102, T103, T105, T107, T128, K0_0, K0_2, K0_17]), ⟨p0, p1, b2, oX, by rw [hLe]; omega⟩, nH, fH⟩
    · intro i hi e2 h2 hK hO hN ⟨j101, ⟨y0, y1, y2, oY, hY⟩, n2, f2⟩
      simp only [List.map_cons, List.map_nil, List.cons.injEq, and_true, RH, Nat.reduceAdd, Nat.reduceEqDiff, reduceIte, envOf0, envOf1, envOf2, envOf3, envOf4, envOf5, oA, K0_0, K0_2, K0_17] at hK
      obtain ⟨K2_0, K2_11⟩ := hK
      simp only [List.map_cons, List.map_nil, List.cons.injEq, and_true, RH, Nat.reduceAdd, Nat.reduceEqDiff, reduceIte, envOf0, envOf1, envOf2, envOf3, envOf4, envOf5, oA, K0_0, K0_2, K0_17] at hO
      have O2_0 := hO
      try simp only [RH] at hN
      have hia : i * AA ≤ 4 * AA := Nat.mul_le_mul_right _ (by omega)
      repeat (first
        | refine R_seq ?_ | refine R_region ?_ | refine R_nil ?_ | refine Q_seq ?_ | refine Q_norm ?_ | refine Q_seqr ?_ | refine Q_seqx ?_ | refine Q_bl ?_ | refine Q_blr ?_ | refine Q_blx ?_ | refine Q_blo rfl ?_ | refine R_block ?_ | refine R_skip ?_ | refine R_exit ?_ | refine R_ret ?_ | refine I_true ?_ | refine I_false ?_ | refine N_exit ?_ | refine N_ret ?_
        | (refine R_draw (by kernel_rfl) ?_)
        | ((first | apply R_op | apply R_op0)
           · ((repeat (first | simp (maxDischargeDepth := 9) only [RA, Nat.reduceEqDiff, Nat.reduceLT, Nat.reduceLeDiff, Nat.reduceAdd, Nat.reduceSub, Nat.reduceMul, Nat.reduceDiv, Nat.reduceMod, Nat.reducePow, Nat.reduceBEq, Nat.reduceGT, reduceIte, j101, hi, oY, hpq, hpq2, T1, T3, T93, T94, T102, T103, T105, T107, T128, K0_0, K0_2, K0_17, K2_0, K2_11, O2_0] | simp (disch := first | assumption | omega) only [RV, j101, hi, oY, hpq, hpq2, K0_0, K0_2, K0_17, K2_0, K2_11, O2_0])) <;> rfl))
        | (apply R_cond
           · (simp only [RE, Nat.reduceEqDiff, Nat.reduceLT, Nat.reduceLeDiff, Nat.reduceBEq, reduceIte] <;> rfl))
        | (apply R_grd
           · (simp only [yieldedA, RY, Nat.reduceEqDiff, reduceIte] <;> rfl)))
      refine R_fn ?_ (add103 (q + 1) h2 p y0 y1 y2 a0 a1 a2 _ oY (by rw [hY, hAe]; unfold Q130 at *; omega)) ?_
      · rfl
      intro v3 h3 ⟨⟨s0, s1, s2, o3, e3⟩, n3, f3⟩
      have oA3 : h3.obj (h.nx + 1) = some (.row .rw 1 [w64 a0, w64 a1, w64 a2]) := by rw [f3 _ (by omega)]; exact O2_0
      repeat (first
        | refine R_seq ?_ | refine R_region ?_ | refine R_nil ?_ | refine Q_seq ?_ | refine Q_norm ?_ | refine Q_seqr ?_ | refine Q_seqx ?_ | refine Q_bl ?_ | refine Q_blr ?_ | refine Q_blx ?_ | refine Q_blo rfl ?_ | refine R_block ?_ | refine R_skip ?_ | refine R_exit ?_ | refine R_ret ?_ | refine I_true ?_ | refine I_false ?_ | refine N_exit ?_ | refine N_ret ?_
        | (refine R_draw (by kernel_rfl) ?_)
        | ((first | apply R_op | apply R_op0)
           · ((repeat (first | simp (maxDischargeDepth := 9) only [RA, Nat.reduceEqDiff, Nat.reduceLT, Nat.reduceLeDiff, Nat.reduceAdd, Nat.reduceSub, Nat.reduceMul, Nat.reduceDiv, Nat.reduceMod, Nat.reducePow, Nat.reduceBEq, Nat.reduceGT, reduceIte, j101, T1, T3, T93, T94, T102, T103, T105, T107, T128, K0_0, K0_2, K0_17, K2_0, K2_11, O2_0] | simp (disch := first | assumption | omega) only [RV, j101, K0_0, K0_2, K0_17, K2_0, K2_11, O2_0])) <;> rfl))
        | (apply R_cond
           · (simp only [RE, Nat.reduceEqDiff, Nat.reduceLT, Nat.reduceLeDiff, Nat.reduceBEq, reduceIte] <;> rfl))
        | (apply R_grd
           · (simp only [yieldedA, RY, Nat.reduceEqDiff, reduceIte] <;> rfl)))
      refine ⟨rfl, by first | rfl | simp only [List.map_cons, List.map_nil, RH, Nat.reduceAdd, Nat.reduceEqDiff, reduceIte, oA3, n3, T1, T3, T93, T94, T102, T103, T105, T107, T128, K0_0, K0_2, K0_17, K2_0, K2_11, O2_0], by first | rfl | simp only [List.map_cons, List.map_nil, RH, Nat.reduceAdd, Nat.reduceEqDiff, reduceIte, oA3, n3, T1, T3, T93, T94, T102, T103, T105, T107, T128, K0_0, K0_2, K0_17, K2_0, K2_11, O2_0], by first | (simp only [RH, oA3, n3, T1, T3, T93, T94, T102, T103, T105, T107, T128, K0_0, K0_2, K0_17, K2_0, K2_11, O2_0]; done) | ((try simp only [RH, oA3, n3, T1, T3, T93, T94, T102, T103, T105, T107, T128, K0_0, K0_2, K0_17, K2_0, K2_11, O2_0]); omega), ?_⟩
      refine ⟨by (try simp only [List.map_cons, List.map_nil, RH, Nat.reduceAdd, Nat.reduceEqDiff, reduceIte, ev_tmp, ev_const, lit_iv, lit_w8, lit_w32, lit_w64, envOf0, envOf1, envOf2, envOf3, envOf4, envOf5, T1, T3, T93, T94, T102, T103, T105, T107, T128, K0_0, K0_2, K0_17, K2_0, K2_11, O2_0]), ⟨s0, s1, s2, o3, ?_⟩, by rw [n3, n2], fun r hr hr2 => by rw [f3 r hr]; exact f2 r hr hr2⟩
      rw [e3, hY, hAe, Nat.add_mul, Nat.one_mul, Nat.add_assoc]
    · intro e2 h2 hK hO hN ⟨j101, ⟨y0, y1, y2, oY, hY⟩, n2, f2⟩
      simp only [List.map_cons, List.map_nil, List.cons.injEq, and_true, RH, Nat.reduceAdd, Nat.reduceEqDiff, reduceIte, envOf0, envOf1, envOf2, envOf3, envOf4, envOf5, oA, K0_0, K0_2, K0_17] at hK
      obtain ⟨K2_0, K2_11⟩ := hK
      simp only [List.map_cons, List.map_nil, List.cons.injEq, and_true, RH, Nat.reduceAdd, Nat.reduceEqDiff, reduceIte, envOf0, envOf1, envOf2, envOf3, envOf4, envOf5, oA, K0_0, K0_2, K0_17] at hO
      have O2_0 := hO
      try simp only [RH] at hN
      repeat (first
        | refine R_seq ?_ | refine R_region ?_ | refine R_nil ?_ | refine Q_seq ?_ | refine Q_norm ?_ | refine Q_seqr ?_ | refine Q_seqx ?_ | refine Q_bl ?_ | refine Q_blr ?_ | refine Q_blx ?_ | refine Q_blo rfl ?_ | refine R_block ?_ | refine R_skip ?_ | refine R_exit ?_ | refine R_ret ?_ | refine I_true ?_ | refine I_false ?_ | refine N_exit ?_ | refine N_ret ?_
        | ((first | apply R_op | apply R_op0)
           · ((repeat (first | simp (maxDischargeDepth := 9) only [RA, Nat.reduceEqDiff, Nat.reduceLT, Nat.reduceLeDiff, Nat.reduceAdd, Nat.reduceSub, Nat.reduceMul, Nat.reduceDiv, Nat.reduceMod, Nat.reducePow, Nat.reduceBEq, Nat.reduceGT, reduceIte, j101, T1, T3, T93, T94, T102, T103, T105, T107, T128, K0_0, K0_2, K0_17, K2_0, K2_11, O2_0] | simp (disch := first | assumption | omega) only [RV, j101, K0_0, K0_2, K0_17, K2_0, K2_11, O2_0])) <;> rfl))
        | (apply R_cond
           · (simp only [RE, Nat.reduceEqDiff, Nat.reduceLT, Nat.reduceLeDiff, Nat.reduceBEq, reduceIte] <;> rfl))
        | (apply R_grd
           · (simp only [yieldedA, RY, Nat.reduceEqDiff, reduceIte] <;> rfl)))
      have hVb : N3 y0 y1 y2 < 1531270651147223085585135733442956951552 := by unfold Q130 at hL; omega
      rw [← hY] at hmod
      refine W_loopK [0] [] (fun j e3 h3 => (∃ z0 z1 z2, h3.obj p = some (.row .rw 1 [w64 z0, w64 z1, w64 z2, w64 r0, w64 r1]) ∧ N3 z0 z1 z2 + j * P130 = N3 y0 y1 y2) ∧ h3.nx = h.nx + 2 ∧ ∀ r, r ≠ p → r < h.nx → h3.obj r = h.obj r) (N3 y0 y1 y2 / Q130) (by unfold Q130; omega) ?_ ?_ ?_
      · exact ⟨⟨y0, y1, y2, oY, by omega⟩, n2, f2⟩
      · intro j hj e3 h3 hK hO hN ⟨⟨z0, z1, z2, oZ, hZ⟩, n3, f3⟩
        simp only [List.map_cons, List.map_nil, List.cons.injEq, and_true, RH, Nat.reduceAdd, Nat.reduceEqDiff, reduceIte, envOf0, envOf1, envOf2, envOf3, envOf4, envOf5, K0_0, K0_2, K0_17, K2_0, K2_11, O2_0] at hK
        have K3_0 := hK
        try simp only [RH] at hN
        have hj0 : j = 0 := by unfold Q130 at hj; omega
        subst hj0
        have hc : ¬ (z2 >>> 2 = 0#64) := fun hh => by
          have := (N3_top z0 z1 z2).1 hh
          unfold Q130 at *; omega
        repeat (first
          | refine R_seq ?_ | refine R_region ?_ | refine R_nil ?_ | refine Q_seq ?_ | refine Q_norm ?_ | refine Q_seqr ?_ | refine Q_seqx ?_ | refine Q_bl ?_ | refine Q_blr ?_ | refine Q_blx ?_ | refine Q_blo rfl ?_ | refine R_block ?_ | refine R_skip ?_ | refine R_exit ?_ | refine R_ret ?_ | refine I_true ?_ | refine I_false ?_ | refine N_exit ?_ | refine N_ret ?_
          | (refine R_draw (by kernel_rfl) ?_)
          | ((first | apply R_op | apply R_op0)
             · ((repeat (first | simp (maxDischargeDepth := 9) only [RA, Nat.reduceEqDiff, Nat.reduceLT, Nat.reduceLeDiff, Nat.reduceAdd, Nat.reduceSub, Nat.reduceMul, Nat.reduceDiv, Nat.reduceMod, Nat.reducePow, Nat.reduceBEq, Nat.reduceGT, reduceIte, oZ, hc, show (2#64).toNat = 2 from rfl, T1, T3, T93, T94, T102, T103, T105, T107, T128, K0_0, K0_2, K0_17, K2_0, K2_11, O2_0, K3_0] | simp (disch := first | assumption | omega) only [RV, oZ, hc, show (2#64).toNat = 2 from rfl, K0_0, K0_2, K0_17, K2_0, K2_11, O2_0, K3_0])) <;> rfl))
          | (apply R_cond
             · (simp only [RE, Nat.reduceEqDiff, Nat.reduceLT, Nat.reduceLeDiff, Nat.reduceBEq, reduceIte] <;> rfl))
          | (apply R_grd
             · (simp only [yieldedA, RY, Nat.reduceEqDiff, reduceIte] <;> rfl)))
        have hz := N3_and z0 z1 z2
        have h1 : (z2 >>> 2).toNat = 1 := by
          rw [shr2]
          unfold N3 Q130 at *
          have := z0.isLt
          have := z1.isLt
          omega
        refine R_fn ?_ (fold119 q (h3.put p (some (.row .rw 1 [w64 z0, w64 z1, w64 (z2 &&& 3#64), w64 r0, w64 r1]))) p z0 z1 (z2 &&& 3#64) (z2 >>> 2) [w64 r0, w64 r1] (by simp only [RH]) (by rw [hz]; exact Nat.mod_lt _ (by decide)) (by rw [h1]; decide)) ?_
        · rfl
        intro v4 h4 ⟨⟨s0, s1, s2, o4, e4⟩, n4, f4⟩
        simp only [RH] at n4
        repeat (first
          | refine R_seq ?_ | refine R_region ?_ | refine R_nil ?_ | refine Q_seq ?_ | refine Q_norm ?_ | refine Q_seqr ?_ | refine Q_seqx ?_ | refine Q_bl ?_ | refine Q_blr ?_ | refine Q_blx ?_ | refine Q_blo rfl ?_ | refine R_block ?_ | refine R_skip ?_ | refine R_exit ?_ | refine R_ret ?_ | refine I_true ?_ | refine I_false ?_ | refine N_exit ?_ | refine N_ret ?_
          | (refine R_draw (by kernel_rfl) ?_)
          | ((first | apply R_op | apply R_op0)
             · ((repeat (first | simp (maxDischargeDepth := 9) only [RA, Nat.reduceEqDiff, Nat.reduceLT, Nat.reduceLeDiff, Nat.reduceAdd, Nat.reduceSub, Nat.reduceMul, Nat.reduceDiv, Nat.reduceMod, Nat.reducePow, Nat.reduceBEq, Nat.reduceGT, reduceIte, T1, T3, T93, T94, T102, T103, T105, T107, T128, K0_0, K0_2, K0_17, K2_0, K2_11, O2_0, K3_0] | simp (disch := first | assumption | omega) only [RV, K0_0, K0_2, K0_17, K2_0, K2_11, O2_0, K3_0])) <;> rfl))
          | (apply R_cond
             · (simp only [RE, Nat.reduceEqDiff, Nat.reduceLT, Nat.reduceLeDiff, Nat.reduceBEq, reduceIte] <;> rfl))
          | (apply R_grd
             · (simp only [yieldedA, RY, Nat.reduceEqDiff, reduceIte] <;> rfl)))
        refine ⟨rfl, by first | rfl | simp only [List.map_cons, List.map_nil, RH, Nat.reduceAdd, Nat.reduceEqDiff, reduceIte, n4, T1, T3, T93, T94, T102, T103, T105, T107, T128, K0_0, K0_2, K0_17, K2_0, K2_11, O2_0, K3_0], by first | rfl | simp only [List.map_cons, List.map_nil, RH, Nat.reduceAdd, Nat.reduceEqDiff, reduceIte, n4, T1, T3, T93, T94, T102, T103, T105, T107, T128, K0_0, K0_2, K0_17, K2_0, K2_11, O2_0, K3_0], by first | (simp only [RH, n4, T1, T3, T93, T94, T102, T103, T105, T107, T128, K0_0, K0_2, K0_17, K2_0, K2_11, O2_0, K3_0]; done) | ((try simp only [RH, n4, T1, T3, T93, T94, T102, T103, T105, T107, T128, K0_0, K0_2, K0_17, K2_0, K2_11, O2_0, K3_0]); omega), ?_⟩
        refine ⟨⟨s0, s1, s2, o4, ?_⟩, by rw [n4, n3], fun r hr hr2 => ?_⟩
        · rw [e4, hz, h1]
          unfold Q130 P130 at *
          omega
        · have c2 : (r = p) = False := eq_false hr
          rw [f4 r hr]
          simp only [RH, c2, reduceIte]
          exact f3 r hr hr2
      · intro e3 h3 hK hO hN ⟨⟨z0, z1, z2, oZ, hZ⟩, n3, f3⟩
        simp only [List.map_cons, List.map_nil, List.cons.injEq, and_true, RH, Nat.reduceAdd, Nat.reduceEqDiff, reduceIte, envOf0, envOf1, envOf2, envOf3, envOf4, envOf5, K0_0, K0_2, K0_17, K2_0, K2_11, O2_0] at hK
        have K3_0 := hK
        try simp only [RH] at hN
        have hlt : N3 z0 z1 z2 < Q130 := by unfold Q130 P130 at *; omega
        have hc : z2 >>> 2 = 0#64 := (N3_top z0 z1 z2).2 hlt
        repeat (first
          | refine R_seq ?_ | refine R_region ?_ | refine R_nil ?_ | refine Q_seq ?_ | refine Q_norm ?_ | refine Q_seqr ?_ | refine Q_seqx ?_ | refine Q_bl ?_ | refine Q_blr ?_ | refine Q_blx ?_ | refine Q_blo rfl ?_ | refine R_block ?_ | refine R_skip ?_ | refine R_exit ?_ | refine R_ret ?_ | refine I_true ?_ | refine I_false ?_ | refine N_exit ?_ | refine N_ret ?_
          | (refine R_draw (by kernel_rfl) ?_)
          | ((first | apply R_op | apply R_op0)
             · ((repeat (first | simp (maxDischargeDepth := 9) only [RA, Nat.reduceEqDiff, Nat.reduceLT, Nat.reduceLeDiff, Nat.reduceAdd, Nat.reduceSub, Nat.reduceMul, Nat.reduceDiv, Nat.reduceMod, Nat.reducePow, Nat.reduceBEq, Nat.reduceGT, reduceIte, oZ, hc, show (2#64).toNat = 2 from rfl, T1, T3, T93, T94, T102, T103, T105, T107, T128, K0_0, K0_2, K0_17, K2_0, K2_11, O2_0, K3_0] | simp (disch := first | assumption | omega) only [RV, oZ, hc, show (2#64).toNat = 2 from rfl, K0_0, K0_2, K0_17, K2_0, K2_11, O2_0, K3_0])) <;> rfl))
          | (apply R_cond
             · (simp only [RE, Nat.reduceEqDiff, Nat.reduceLT, Nat.reduceLeDiff, Nat.reduceBEq, reduceIte] <;> rfl))
          | (apply R_grd
             · (simp only [yieldedA, RY, Nat.reduceEqDiff, reduceIte] <;> rfl)))
        refine ⟨.inl rfl, _, rfl, ⟨z0, z1, z2, oZ, hlt, ?_⟩, by omega, f3⟩
        rw [← hmod, ← hZ, Nat.add_mul_mod_self_right]
end Go.Proofs.Ytfehhihllenjiaa
