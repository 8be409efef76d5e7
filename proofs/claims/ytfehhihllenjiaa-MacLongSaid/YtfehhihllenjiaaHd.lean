/- The digest: a step. -/
import Derived.Test.YtfehhihllenjiaaHc
set_option linter.all false
namespace Go.Proofs.Ytfehhihllenjiaa
open Go.Proofs
theorem St.l_length (s : St) : s.l.length = 8 := rfl
theorem sl0 (s : St) : s.l.getD 0 0#32 = s.a := rfl
theorem sl1 (s : St) : s.l.getD 1 0#32 = s.b := rfl
theorem sl2 (s : St) : s.l.getD 2 0#32 = s.c := rfl
theorem sl3 (s : St) : s.l.getD 3 0#32 = s.d := rfl
theorem sl4 (s : St) : s.l.getD 4 0#32 = s.e := rfl
theorem sl5 (s : St) : s.l.getD 5 0#32 = s.f := rfl
theorem sl6 (s : St) : s.l.getD 6 0#32 = s.g := rfl
theorem sl7 (s : St) : s.l.getD 7 0#32 = s.h := rfl
theorem bu48 (a b c d e f g h : BitVec 32) : evBuild Try.prog 48 [(0, w32 a), (1, w32 b), (2, w32 c), (3, w32 d), (4, w32 e), (5, w32 f), (6, w32 g), (7, w32 h)] = some (.agg ⟨b32 (St.l ⟨a, b, c, d, e, f, g, h⟩)⟩) := by kernel_rfl
theorem bu47 (a b c d e f g h : BitVec 32) : evBuild Try.prog 47 [(0, w32 a), (1, w32 b), (2, w32 c), (3, w32 d), (4, w32 e), (5, w32 f), (6, w32 g), (7, w32 h)] = some (.agg ⟨b32 (St.l ⟨a, b, c, d, e, f, g, h⟩)⟩) := by kernel_rfl
attribute [local irreducible] evOps iter evD evF evC evLoad evStore evAlloc evIndexAddr evIndex evLenB evBox evBin evUn evConvert evExtract evSlice evAppend evCopy evNil evBuild evMakeSlice evBuildSlice evBuiltin Program.underlying
attribute [local irreducible] kl wl rnds wpad accW St.l
theorem inl58 : inlOf Try.prog 58 = true := by kernel_rfl
theorem iso58 : isoOf Try.prog 58 = false := by kernel_rfl
set_option maxRecDepth 20000 in
set_option maxHeartbeats 8000000 in
theorem step58 (q : Nat) (h : Heap) (s : St) (v : Value) (b : List (BitVec 8)) (hb : By h v b) :
    ∃ v' h', fcall Try.prog (q + 4) (.func (.func 58) #[] #[]) [.agg ⟨b32 s.l⟩, v] h = some (.ok v', h') ∧ v' = .agg ⟨b32 (shaStep s b).l⟩ ∧ Fr h.nx h h' := by
  rw [fcall_inl inl58 iso58, evF_eq Try.func58 rfl]
  apply evEnd_of_W
  simp only [Try.f58]
  have hls := St.l_length s
  have hcs := fun (kd : Kind) (es : Nat) => cut32 (k := kd) (es := es) hls
  have hps := fun (H : Heap) (p : Nat) => puts32 (h := H) (b := p) (es := 1) hls (List.length_replicate (n := 8) (a := 0#32))
  by_cases h64 : b.length = 64
  · repeat (first
    | refine R_seq ?_ | refine R_region ?_ | refine R_nil ?_ | refine Q_seq ?_ | refine Q_norm ?_ | refine Q_seqr ?_ | refine Q_seqx ?_ | refine Q_bl ?_ | refine Q_blr ?_ | refine Q_blx ?_ | refine Q_blo rfl ?_ | refine R_block ?_ | refine R_skip ?_ | refine R_exit ?_ | refine R_ret ?_ | refine I_true ?_ | refine I_false ?_ | refine N_exit ?_ | refine N_ret ?_
    | (refine R_draw (by kernel_rfl) ?_)
    | ((first | apply R_op | apply R_op0)
       · (first | (simp (maxDischargeDepth := 9) only [RA, Nat.reduceEqDiff, Nat.reduceLT, Nat.reduceLeDiff, Nat.reduceAdd, Nat.reduceSub, Nat.reduceMul, Nat.reduceDiv, Nat.reduceMod, Nat.reducePow, Nat.reduceBEq, Nat.reduceGT, reduceIte, S38len hb, h64, rep32, hls, hcs, sl0, sl1, sl2, sl3, sl4, sl5, sl6, sl7, rounds93 (q + 2), T3, T22, T38, T48, T95] <;> rfl) | ((repeat (first | (simp (maxDischargeDepth := 9) only [RA, Nat.reduceEqDiff, Nat.reduceLT, Nat.reduceLeDiff, Nat.reduceAdd, Nat.reduceSub, Nat.reduceMul, Nat.reduceDiv, Nat.reduceMod, Nat.reducePow, Nat.reduceBEq, Nat.reduceGT, reduceIte, S38len hb, h64, rep32, hls, hcs, sl0, sl1, sl2, sl3, sl4, sl5, sl6, sl7, rounds93 (q + 2), T3, T22, T38, T48, T95]; done) | simp (maxDischargeDepth := 9) only [RA, Nat.reduceEqDiff, Nat.reduceLT, Nat.reduceLeDiff, Nat.reduceAdd, Nat.reduceSub, Nat.reduceMul, Nat.reduceDiv, Nat.reduceMod, Nat.reducePow, Nat.reduceBEq, Nat.reduceGT, reduceIte, S38len hb, h64, rep32, hls, hcs, sl0, sl1, sl2, sl3, sl4, sl5, sl6, sl7, rounds93 (q + 2), T3, T22, T38, T48, T95] | simp (disch := first | assumption | omega) only [RV, S38len hb, h64, rep32, hls, hcs, sl0, sl1, sl2, sl3, sl4, sl5, sl6, sl7, rounds93 (q + 2), T3, T22, T38, T48, T95])) <;> rfl)))
    | (apply R_cond
       · (simp only [RE, Nat.reduceEqDiff, Nat.reduceLT, Nat.reduceLeDiff, Nat.reduceBEq, reduceIte, S38len hb, h64, rep32, hls, hcs, sl0, sl1, sl2, sl3, sl4, sl5, sl6, sl7, rounds93 (q + 2), T3, T22, T38, T48, T95] <;> rfl))
    | (apply R_grd
       · (simp only [yieldedA, RY, Nat.reduceEqDiff, reduceIte, S38len hb, h64, rep32, hls, hcs, sl0, sl1, sl2, sl3, sl4, sl5, sl6, sl7, rounds93 (q + 2), T3, T22, T38, T48, T95] <;> rfl)))
    have hkc := fun (kd : Kind) (es : Nat) => cut32 (k := kd) (es := es) kl_length
    have hkp := fun (H : Heap) (p : Nat) => puts32 (h := H) (b := p) (es := 1) kl_length (List.length_replicate (n := 64) (a := 0#32))
    repeat (first
      | refine R_seq ?_ | refine R_region ?_ | refine R_nil ?_ | refine Q_seq ?_ | refine Q_norm ?_ | refine Q_seqr ?_ | refine Q_seqx ?_ | refine Q_bl ?_ | refine Q_blr ?_ | refine Q_blx ?_ | refine Q_blo rfl ?_ | refine R_block ?_ | refine R_skip ?_ | refine R_exit ?_ | refine R_ret ?_ | refine I_true ?_ | refine I_false ?_ | refine N_exit ?_ | refine N_ret ?_
      | (refine R_draw (by kernel_rfl) ?_)
      | ((first | apply R_op | apply R_op0)
         · (first | (simp (maxDischargeDepth := 9) only [RA, Nat.reduceEqDiff, Nat.reduceLT, Nat.reduceLeDiff, Nat.reduceAdd, Nat.reduceSub, Nat.reduceMul, Nat.reduceDiv, Nat.reduceMod, Nat.reducePow, Nat.reduceBEq, Nat.reduceGT, reduceIte, rep32, hkp, rounds93 (q + 2), T3, T22, T38, T48, T95] <;> rfl) | ((repeat (first | (simp (maxDischargeDepth := 9) only [RA, Nat.reduceEqDiff, Nat.reduceLT, Nat.reduceLeDiff, Nat.reduceAdd, Nat.reduceSub, Nat.reduceMul, Nat.reduceDiv, Nat.reduceMod, Nat.reducePow, Nat.reduceBEq, Nat.reduceGT, reduceIte, rep32, hkp, rounds93 (q + 2), T3, T22, T38, T48, T95]; done) | simp (maxDischargeDepth := 9) only [RA, Nat.reduceEqDiff, Nat.reduceLT, Nat.reduceLeDiff, Nat.reduceAdd, Nat.reduceSub, Nat.reduceMul, Nat.reduceDiv, Nat.reduceMod, Nat.reducePow, Nat.reduceBEq, Nat.reduceGT, reduceIte, rep32, hkp, rounds93 (q + 2), T3, T22, T38, T48, T95] | simp (disch := first | assumption | omega) only [RV, rep32, hkp, rounds93 (q + 2), T3, T22, T38, T48, T95])) <;> rfl)))
      | (apply R_cond
         · (simp only [RE, Nat.reduceEqDiff, Nat.reduceLT, Nat.reduceLeDiff, Nat.reduceBEq, reduceIte, rep32, hkp, rounds93 (q + 2), T3, T22, T38, T48, T95] <;> rfl))
      | (apply R_grd
         · (simp only [yieldedA, RY, Nat.reduceEqDiff, reduceIte, rep32, hkp, rounds93 (q + 2), T3, T22, T38, T48, T95] <;> rfl)))
    refine O_heap fun H hH => ?_
    have FH : Fr h.nx h H := by
      rw [hH]; (repeat (first | assumption | exact Fr.refl _ _ | refine Fr.new ?_ ?_ _ _ _ | refine Fr.put ?_ ?_ _ | omega | (simp only [RH]; omega)))
    have o0 : H.obj h.nx = some (.row .rw 1 (b32 s.l)) := by rw [hH]; simp [RH]
    have o2 : H.obj (h.nx + 2) = some (.row .rw 1 (b32 kl)) := by rw [hH]; simp [RH]
    have o1 : H.obj (h.nx + 1) = some (.row .rw 1 (b32 (List.replicate 8 0#32))) := by rw [hH]; simp [RH, rep32]
    have nH : h.nx + 3 ≤ H.nx := by rw [hH]; simp [RH]
    clear hH
    repeat (first
      | refine R_seq ?_ | refine R_region ?_ | refine R_nil ?_ | refine Q_seq ?_ | refine Q_norm ?_ | refine Q_seqr ?_ | refine Q_seqx ?_ | refine Q_bl ?_ | refine Q_blr ?_ | refine Q_blx ?_ | refine Q_blo rfl ?_ | refine R_block ?_ | refine R_skip ?_ | refine R_exit ?_ | refine R_ret ?_ | refine I_true ?_ | refine I_false ?_ | refine N_exit ?_ | refine N_ret ?_
      | (refine R_draw (by kernel_rfl) ?_)
      | ((first | apply R_op | apply R_op0)
         · (first | (simp (maxDischargeDepth := 9) only [RA, Nat.reduceEqDiff, Nat.reduceLT, Nat.reduceLeDiff, Nat.reduceAdd, Nat.reduceSub, Nat.reduceMul, Nat.reduceDiv, Nat.reduceMod, Nat.reducePow, Nat.reduceBEq, Nat.reduceGT, reduceIte, T3, T22, T38, T48, T95] <;> rfl) | ((repeat (first | (simp (maxDischargeDepth := 9) only [RA, Nat.reduceEqDiff, Nat.reduceLT, Nat.reduceLeDiff, Nat.reduceAdd, Nat.reduceSub, Nat.reduceMul, Nat.reduceDiv, Nat.reduceMod, Nat.reducePow, Nat.reduceBEq, Nat.reduceGT, reduceIte, T3, T22, T38, T48, T95]; done) | simp (maxDischargeDepth := 9) only [RA, Nat.reduceEqDiff, Nat.reduceLT, Nat.reduceLeDiff, Nat.reduceAdd, Nat.reduceSub, Nat.reduceMul, Nat.reduceDiv, Nat.reduceMod, Nat.reducePow, Nat.reduceBEq, Nat.reduceGT, reduceIte, T3, T22, T38, T48, T95] | simp (disch := first | assumption | omega) only [RV, T3, T22, T38, T48, T95])) <;> rfl)))
      | (apply R_cond
         · (simp only [RE, Nat.reduceEqDiff, Nat.reduceLT, Nat.reduceLeDiff, Nat.reduceBEq, reduceIte, T3, T22, T38, T48, T95] <;> rfl))
      | (apply R_grd
         · (simp only [yieldedA, RY, Nat.reduceEqDiff, reduceIte, T3, T22, T38, T48, T95] <;> rfl)))
    refine R_fn ?_ (words94 q _ v b (hb.fr0 FH) h64) ?_
    · rfl
    intro v1 h1 ⟨hv1, F1⟩
    subst hv1
    have q0 := F1.2 h.nx (by omega)
    have q1 := F1.2 (h.nx + 1) (by omega)
    have q2 := F1.2 (h.nx + 2) (by omega)
    rw [o0] at q0
    rw [o1] at q1
    rw [o2] at q2
    repeat (first
      | refine R_seq ?_ | refine R_region ?_ | refine R_nil ?_ | refine Q_seq ?_ | refine Q_norm ?_ | refine Q_seqr ?_ | refine Q_seqx ?_ | refine Q_bl ?_ | refine Q_blr ?_ | refine Q_blx ?_ | refine Q_blo rfl ?_ | refine R_block ?_ | refine R_skip ?_ | refine R_exit ?_ | refine R_ret ?_ | refine I_true ?_ | refine I_false ?_ | refine N_exit ?_ | refine N_ret ?_
      | (refine R_draw (by kernel_rfl) ?_)
      | ((first | apply R_op | apply R_op0)
         · (first | (simp (maxDischargeDepth := 9) only [RA, Nat.reduceEqDiff, Nat.reduceLT, Nat.reduceLeDiff, Nat.reduceAdd, Nat.reduceSub, Nat.reduceMul, Nat.reduceDiv, Nat.reduceMod, Nat.reducePow, Nat.reduceBEq, Nat.reduceGT, reduceIte, T3, T22, T38, T48, T95] <;> rfl) | ((repeat (first | (simp (maxDischargeDepth := 9) only [RA, Nat.reduceEqDiff, Nat.reduceLT, Nat.reduceLeDiff, Nat.reduceAdd, Nat.reduceSub, Nat.reduceMul, Nat.reduceDiv, Nat.reduceMod, Nat.reducePow, Nat.reduceBEq, Nat.reduceGT, reduceIte, T3, T22, T38, T48, T95]; done) | simp (maxDischargeDepth := 9) only [RA, Nat.reduceEqDiff, Nat.reduceLT, Nat.reduceLeDiff, Nat.reduceAdd, Nat.reduceSub, Nat.reduceMul, Nat.reduceDiv, Nat.reduceMod, Nat.reducePow, Nat.reduceBEq, Nat.reduceGT, reduceIte, T3, T22, T38, T48, T95] | simp (disch := first | assumption | omega) only [RV, T3, T22, T38, T48, T95])) <;> rfl)))
      | (apply R_cond
         · (simp only [RE, Nat.reduceEqDiff, Nat.reduceLT, Nat.reduceLeDiff, Nat.reduceBEq, reduceIte, T3, T22, T38, T48, T95] <;> rfl))
      | (apply R_grd
         · (simp only [yieldedA, RY, Nat.reduceEqDiff, reduceIte, T3, T22, T38, T48, T95] <;> rfl)))
    refine W_loopK [2, 4, 13, 40] [] (fun i e2 h2 => e2 41 = iv i ∧ e2 5 = w32 (rnds b s i).a ∧ e2 6 = w32 (rnds b s i).b ∧ e2 7 = w32 (rnds b s i).c ∧ e2 8 = w32 (rnds b s i).d ∧ e2 9 = w32 (rnds b s i).e ∧ e2 10 = w32 (rnds b s i).f ∧ e2 11 = w32 (rnds b s i).g ∧ e2 12 = w32 (rnds b s i).h ∧ h2 = h1) 64 (by decide) ?_ ?_ ?_
    · have e0 : rnds b s 0 = s := by unfold rnds; rfl
      rw [e0]
      refine ⟨?_, ?_, ?_, ?_, ?_, ?_, ?_, ?_, ?_, rfl⟩ <;> (try simp only [List.map_cons, List.map_nil, RH, Nat.reduceAdd, Nat.reduceEqDiff, reduceIte, ev_tmp, ev_const, lit_iv, lit_w8, lit_w32, lit_w64, envOf0, envOf1, envOf2, envOf3, envOf4, envOf5, T3, T22, T38, T48, T95])
    · intro i hi e2 h2 hK hO hN ⟨j41, j5, j6, j7, j8, j9, j10, j11, j12, rfl⟩
      simp only [List.map_cons, List.map_nil, List.cons.injEq, and_true, RH, Nat.reduceAdd, Nat.reduceEqDiff, reduceIte, envOf0, envOf1, envOf2, envOf3, envOf4, envOf5] at hK
      obtain ⟨K0_2, K0_4, K0_13, K0_40⟩ := hK
      try simp only [RH] at hN
      have hwl : i < (wl b 64).length := by rw [wl_length]; exact hi
      have hkl : i < kl.length := by rw [kl_length]; exact hi
      repeat (first
        | refine R_seq ?_ | refine R_region ?_ | refine R_nil ?_ | refine Q_seq ?_ | refine Q_norm ?_ | refine Q_seqr ?_ | refine Q_seqx ?_ | refine Q_bl ?_ | refine Q_blr ?_ | refine Q_blx ?_ | refine Q_blo rfl ?_ | refine R_block ?_ | refine R_skip ?_ | refine R_exit ?_ | refine R_ret ?_ | refine I_true ?_ | refine I_false ?_ | refine N_exit ?_ | refine N_ret ?_
        | (refine R_draw (by kernel_rfl) ?_)
        | ((first | apply R_op | apply R_op0)
           · (first | (simp (maxDischargeDepth := 9) only [RA, Nat.reduceEqDiff, Nat.reduceLT, Nat.reduceLeDiff, Nat.reduceAdd, Nat.reduceSub, Nat.reduceMul, Nat.reduceDiv, Nat.reduceMod, Nat.reducePow, Nat.reduceBEq, Nat.reduceGT, reduceIte, q0, q1, q2, j41, j5, j6, j7, j8, j9, j10, j11, j12, hi, ix95 hi, idx32 hwl, hkl, turn95 (q + 1) _ 6 (by decide) (by decide), turn95 (q + 1) _ 11 (by decide) (by decide), turn95 (q + 1) _ 25 (by decide) (by decide), turn95 (q + 1) _ 2 (by decide) (by decide), turn95 (q + 1) _ 13 (by decide) (by decide), turn95 (q + 1) _ 22 (by decide) (by decide), T3, T22, T38, T48, T95, K0_2, K0_4, K0_13, K0_40] <;> rfl) | ((repeat (first | (simp (maxDischargeDepth := 9) only [RA, Nat.reduceEqDiff, Nat.reduceLT, Nat.reduceLeDiff, Nat.reduceAdd, Nat.reduceSub, Nat.reduceMul, Nat.reduceDiv, Nat.reduceMod, Nat.reducePow, Nat.reduceBEq, Nat.reduceGT, reduceIte, q0, q1, q2, j41, j5, j6, j7, j8, j9, j10, j11, j12, hi, ix95 hi, idx32 hwl, hkl, turn95 (q + 1) _ 6 (by decide) (by decide), turn95 (q + 1) _ 11 (by decide) (by decide), turn95 (q + 1) _ 25 (by decide) (by decide), turn95 (q + 1) _ 2 (by decide) (by decide), turn95 (q + 1) _ 13 (by decide) (by decide), turn95 (q + 1) _ 22 (by decide) (by decide), T3, T22, T38, T48, T95, K0_2, K0_4, K0_13, K0_40]; done) | simp (maxDischargeDepth := 9) only [RA, Nat.reduceEqDiff, Nat.reduceLT, Nat.reduceLeDiff, Nat.reduceAdd, Nat.reduceSub, Nat.reduceMul, Nat.reduceDiv, Nat.reduceMod, Nat.reducePow, Nat.reduceBEq, Nat.reduceGT, reduceIte, q0, q1, q2, j41, j5, j6, j7, j8, j9, j10, j11, j12, hi, ix95 hi, idx32 hwl, hkl, turn95 (q + 1) _ 6 (by decide) (by decide), turn95 (q + 1) _ 11 (by decide) (by decide), turn95 (q + 1) _ 25 (by decide) (by decide), turn95 (q + 1) _ 2 (by decide) (by decide), turn95 (q + 1) _ 13 (by decide) (by decide), turn95 (q + 1) _ 22 (by decide) (by decide), T3, T22, T38, T48, T95, K0_2, K0_4, K0_13, K0_40] | simp (disch := first | assumption | omega) only [RV, q0, q1, q2, j41, j5, j6, j7, j8, j9, j10, j11, j12, hi, ix95 hi, idx32 hwl, hkl, turn95 (q + 1) _ 6 (by decide) (by decide), turn95 (q + 1) _ 11 (by decide) (by decide), turn95 (q + 1) _ 25 (by decide) (by decide), turn95 (q + 1) _ 2 (by decide) (by decide), turn95 (q + 1) _ 13 (by decide) (by decide), turn95 (q + 1) _ 22 (by decide) (by decide), T3, T22, T38, T48, T95, K0_2, K0_4, K0_13, K0_40])) <;> rfl)))
        | (apply R_cond
           · (simp only [RE, Nat.reduceEqDiff, Nat.reduceLT, Nat.reduceLeDiff, Nat.reduceBEq, reduceIte, q0, q1, q2, j41, j5, j6, j7, j8, j9, j10, j11, j12, hi, ix95 hi, idx32 hwl, hkl, turn95 (q + 1) _ 6 (by decide) (by decide), turn95 (q + 1) _ 11 (by decide) (by decide), turn95 (q + 1) _ 25 (by decide) (by decide), turn95 (q + 1) _ 2 (by decide) (by decide), turn95 (q + 1) _ 13 (by decide) (by decide), turn95 (q + 1) _ 22 (by decide) (by decide), T3, T22, T38, T48, T95, K0_2, K0_4, K0_13, K0_40] <;> rfl))
        | (apply R_grd
           · (simp only [yieldedA, RY, Nat.reduceEqDiff, reduceIte, q0, q1, q2, j41, j5, j6, j7, j8, j9, j10, j11, j12, hi, ix95 hi, idx32 hwl, hkl, turn95 (q + 1) _ 6 (by decide) (by decide), turn95 (q + 1) _ 11 (by decide) (by decide), turn95 (q + 1) _ 25 (by decide) (by decide), turn95 (q + 1) _ 2 (by decide) (by decide), turn95 (q + 1) _ 13 (by decide) (by decide), turn95 (q + 1) _ 22 (by decide) (by decide), T3, T22, T38, T48, T95, K0_2, K0_4, K0_13, K0_40] <;> rfl)))
      refine ⟨rfl, by first | rfl | simp only [List.map_cons, List.map_nil, RH, Nat.reduceAdd, Nat.reduceEqDiff, reduceIte, T3, T22, T38, T48, T95, K0_2, K0_4, K0_13, K0_40], by first | rfl | simp only [List.map_cons, List.map_nil, RH, Nat.reduceAdd, Nat.reduceEqDiff, reduceIte, T3, T22, T38, T48, T95, K0_2, K0_4, K0_13, K0_40], by first | (simp only [RH, T3, T22, T38, T48, T95, K0_2, K0_4, K0_13, K0_40]; done) | ((try simp only [RH, T3, T22, T38, T48, T95, K0_2, K0_4, K0_13, K0_40]); omega), ?_⟩
      have er : rnds b s (i + 1) = rnd (kl.getD i 0#32) ((wl b 64).getD i 0#32) (rnds b s i) := by
        conv => lhs; unfold rnds
      rw [er]
      refine ⟨?_, ?_, ?_, ?_, ?_, ?_, ?_, ?_, ?_, rfl⟩ <;> (try simp only [List.map_cons, List.map_nil, RH, Nat.reduceAdd, Nat.reduceEqDiff, reduceIte, ev_tmp, ev_const, lit_iv, lit_w8, lit_w32, lit_w64, envOf0, envOf1, envOf2, envOf3, envOf4, envOf5, rnd, rndT, rndU, T3, T22, T38, T48, T95, K0_2, K0_4, K0_13, K0_40])
    · intro e2 h2 hK hO hN ⟨j41, j5, j6, j7, j8, j9, j10, j11, j12, rfl⟩
      simp only [List.map_cons, List.map_nil, List.cons.injEq, and_true, RH, Nat.reduceAdd, Nat.reduceEqDiff, reduceIte, envOf0, envOf1, envOf2, envOf3, envOf4, envOf5] at hK
      obtain ⟨K0_2, K0_4, K0_13, K0_40⟩ := hK
      try simp only [RH] at hN
      have hadd := St.l_length ⟨s.a + (rnds b s 64).a, s.b + (rnds b s 64).b, s.c + (rnds b s 64).c, s.d + (rnds b s 64).d, s.e + (rnds b s 64).e, s.f + (rnds b s 64).f, s.g + (rnds b s 64).g, s.h + (rnds b s 64).h⟩
      have hpa := fun (H : Heap) (p : Nat) => puts32 (h := H) (b := p) (es := 1) hadd (List.length_replicate (n := 8) (a := 0#32))
      have hca := fun (kd : Kind) (es : Nat) => cut32 (k := kd) (es := es) hadd
      repeat (first
        | refine R_seq ?_ | refine R_region ?_ | refine R_nil ?_ | refine Q_seq ?_ | refine Q_norm ?_ | refine Q_seqr ?_ | refine Q_seqx ?_ | refine Q_bl ?_ | refine Q_blr ?_ | refine Q_blx ?_ | refine Q_blo rfl ?_ | refine R_block ?_ | refine R_skip ?_ | refine R_exit ?_ | refine R_ret ?_ | refine I_true ?_ | refine I_false ?_ | refine N_exit ?_ | refine N_ret ?_
        | ((first | apply R_op | apply R_op0)
           · (first | (simp (maxDischargeDepth := 9) only [RA, Nat.reduceEqDiff, Nat.reduceLT, Nat.reduceLeDiff, Nat.reduceAdd, Nat.reduceSub, Nat.reduceMul, Nat.reduceDiv, Nat.reduceMod, Nat.reducePow, Nat.reduceBEq, Nat.reduceGT, reduceIte, q0, q1, q2, j41, j5, j6, j7, j8, j9, j10, j11, j12, hls, sl0, sl1, sl2, sl3, sl4, sl5, sl6, sl7, bu48, hpa, T3, T22, T38, T48, T95, K0_2, K0_4, K0_13, K0_40] <;> rfl) | ((repeat (first | (simp (maxDischargeDepth := 9) only [RA, Nat.reduceEqDiff, Nat.reduceLT, Nat.reduceLeDiff, Nat.reduceAdd, Nat.reduceSub, Nat.reduceMul, Nat.reduceDiv, Nat.reduceMod, Nat.reducePow, Nat.reduceBEq, Nat.reduceGT, reduceIte, q0, q1, q2, j41, j5, j6, j7, j8, j9, j10, j11, j12, hls, sl0, sl1, sl2, sl3, sl4, sl5, sl6, sl7, bu48, hpa, T3, T22, T38, T48, T95, K0_2, K0_4, K0_13, K0_40]; done) | simp (maxDischargeDepth := 9) only [RA, Nat.reduceEqDiff, Nat.reduceLT, Nat.reduceLeDiff, Nat.reduceAdd, Nat.reduceSub, Nat.reduceMul, Nat.reduceDiv, Nat.reduceMod, Nat.reducePow, Nat.reduceBEq, Nat.reduceGT, reduceIte, q0, q1, q2, j41, j5, j6, j7, j8, j9, j10, j11, j12, hls, sl0, sl1, sl2, sl3, sl4, sl5, sl6, sl7, bu48, hpa, T3, T22, T38, T48, T95, K0_2, K0_4, K0_13, K0_40] | simp (disch := first | assumption | omega) only [RV, q0, q1, q2, j41, j5, j6, j7, j8, j9, j10, j11, j12, hls, sl0, sl1, sl2, sl3, sl4, sl5, sl6, sl7, bu48, hpa, T3, T22, T38, T48, T95, K0_2, K0_4, K0_13, K0_40])) <;> rfl)))
        | (apply R_cond
           · (simp only [RE, Nat.reduceEqDiff, Nat.reduceLT, Nat.reduceLeDiff, Nat.reduceBEq, reduceIte, q0, q1, q2, j41, j5, j6, j7, j8, j9, j10, j11, j12, hls, sl0, sl1, sl2, sl3, sl4, sl5, sl6, sl7, bu48, hpa, T3, T22, T38, T48, T95, K0_2, K0_4, K0_13, K0_40] <;> rfl))
        | (apply R_grd
           · (simp only [yieldedA, RY, Nat.reduceEqDiff, reduceIte, q0, q1, q2, j41, j5, j6, j7, j8, j9, j10, j11, j12, hls, sl0, sl1, sl2, sl3, sl4, sl5, sl6, sl7, bu48, hpa, T3, T22, T38, T48, T95, K0_2, K0_4, K0_13, K0_40] <;> rfl)))
      first | refine ⟨.inr rfl, ?_⟩ | refine ⟨.inl rfl, ?_⟩
      simp only [evResultList, evResult, K0_4, ld48, RH, upd_apply, Nat.reduceEqDiff, reduceIte, hca, Option.map_some]
      refine ⟨_, rfl, ?_, (FH.trans (F1.le (by omega))).trans (by (repeat (first | assumption | exact Fr.refl _ _ | refine Fr.new ?_ ?_ _ _ _ | refine Fr.put ?_ ?_ _ | omega | (simp only [RH]; omega))))⟩
      unfold shaStep
      rw [if_pos h64]
      rfl
  · repeat (first
    | refine R_seq ?_ | refine R_region ?_ | refine R_nil ?_ | refine Q_seq ?_ | refine Q_norm ?_ | refine Q_seqr ?_ | refine Q_seqx ?_ | refine Q_bl ?_ | refine Q_blr ?_ | refine Q_blx ?_ | refine Q_blo rfl ?_ | refine R_block ?_ | refine R_skip ?_ | refine R_exit ?_ | refine R_ret ?_ | refine I_true ?_ | refine I_false ?_ | refine N_exit ?_ | refine N_ret ?_
    | (refine R_draw (by kernel_rfl) ?_)
    | ((first | apply R_op | apply R_op0)
       · (first | (simp (maxDischargeDepth := 9) only [RA, Nat.reduceEqDiff, Nat.reduceLT, Nat.reduceLeDiff, Nat.reduceAdd, Nat.reduceSub, Nat.reduceMul, Nat.reduceDiv, Nat.reduceMod, Nat.reducePow, Nat.reduceBEq, Nat.reduceGT, reduceIte, S38len hb, h64, rep32, hls, hcs, hps, T3, T22, T38, T48, T95] <;> rfl) | ((repeat (first | (simp (maxDischargeDepth := 9) only [RA, Nat.reduceEqDiff, Nat.reduceLT, Nat.reduceLeDiff, Nat.reduceAdd, Nat.reduceSub, Nat.reduceMul, Nat.reduceDiv, Nat.reduceMod, Nat.reducePow, Nat.reduceBEq, Nat.reduceGT, reduceIte, S38len hb, h64, rep32, hls, hcs, hps, T3, T22, T38, T48, T95]; done) | simp (maxDischargeDepth := 9) only [RA, Nat.reduceEqDiff, Nat.reduceLT, Nat.reduceLeDiff, Nat.reduceAdd, Nat.reduceSub, Nat.reduceMul, Nat.reduceDiv, Nat.reduceMod, Nat.reducePow, Nat.reduceBEq, Nat.reduceGT, reduceIte, S38len hb, h64, rep32, hls, hcs, hps, T3, T22, T38, T48, T95] | simp (disch := first | assumption | omega) only [RV, S38len hb, h64, rep32, hls, hcs, hps, T3, T22, T38, T48, T95])) <;> rfl)))
    | (apply R_cond
       · (simp only [RE, Nat.reduceEqDiff, Nat.reduceLT, Nat.reduceLeDiff, Nat.reduceBEq, reduceIte, S38len hb, h64, rep32, hls, hcs, hps, T3, T22, T38, T48, T95] <;> rfl))
    | (apply R_grd
       · (simp only [yieldedA, RY, Nat.reduceEqDiff, reduceIte, S38len hb, h64, rep32, hls, hcs, hps, T3, T22, T38, T48, T95] <;> rfl)))
    first | refine ⟨.inr rfl, ?_⟩ | refine ⟨.inl rfl, ?_⟩
    simp only [evResultList, evResult, ld48, RH, upd_apply, Nat.reduceEqDiff, reduceIte, hcs, Option.map_some]
    refine ⟨_, rfl, ?_, by (repeat (first | assumption | exact Fr.refl _ _ | refine Fr.new ?_ ?_ _ _ _ | refine Fr.put ?_ ?_ _ | omega | (simp only [RH]; omega)))⟩
    unfold shaStep
    rw [if_neg h64]
    rfl
end Go.Proofs.Ytfehhihllenjiaa
