/- The digest: the reference's step. -/
import Derived.Test.YtfehhihllenjiaaHd
import Derived.Test.YtfehhihllenjiaaC6
set_option linter.all false
namespace Go.Proofs.Ytfehhihllenjiaa
open Go.Proofs
def addL (r s : List (BitVec 32)) (i : Nat) : List (BitVec 32) := (List.range 8).map fun j => if j < i then r.getD j 0#32 + s.getD j 0#32 else r.getD j 0#32
theorem addL_length (r s : List (BitVec 32)) (i : Nat) : (addL r s i).length = 8 := by simp [addL]
theorem addL_zero {r : List (BitVec 32)} (hr : r.length = 8) (s : List (BitVec 32)) : addL r s 0 = r := by
  apply List.ext_getElem (by rw [addL_length, hr])
  intro j h1 h2
  simp [addL, List.getD_eq_getElem?_getD, h2]
theorem addL_get (r s : List (BitVec 32)) {i j : Nat} (hj : j < 8) (hi : i ≤ j) : (addL r s i).getD j 0#32 = r.getD j 0#32 := by
  simp [addL, List.getD_eq_getElem?_getD, hj, Nat.not_lt.2 hi]
theorem addL_set (r s : List (BitVec 32)) {i : Nat} (hi : i < 8) : (addL r s i).set i (r.getD i 0#32 + s.getD i 0#32) = addL r s (i + 1) := by
  apply List.ext_getElem (by rw [List.length_set, addL_length, addL_length])
  intro j h1 h2
  rw [addL_length] at h2
  rw [List.getElem_set]
  simp only [addL, List.getElem_map, List.getElem_range]
  by_cases e : i = j
  · subst e; simp
  · rw [if_neg e]
    by_cases h3 : j < i
    · rw [if_pos h3, if_pos (by omega)]
    · rw [if_neg h3, if_neg (by omega)]
theorem addL_full (s r : St) : addL r.l s.l 8 = (s.add r).l := by
  simp [addL, St.l, St.add, List.range_succ, BitVec.add_comm]
attribute [local irreducible] evOps iter evD evF evC evLoad evStore evAlloc evIndexAddr evIndex evLenB evBox evBin evUn evConvert evExtract evSlice evAppend evCopy evNil evBuild evMakeSlice evBuildSlice evBuiltin Program.underlying
attribute [local irreducible] kl wl rnds wpad accW St.l addL
theorem inl59 : inlOf Try.prog 59 = true := by kernel_rfl
theorem iso59 : isoOf Try.prog 59 = false := by kernel_rfl
set_option maxRecDepth 20000 in
set_option maxHeartbeats 8000000 in
theorem step59 (q : Nat) (h : Heap) (s : St) (v : Value) (b : List (BitVec 8)) (hb : By h v b) :
    ∃ v' h', fcall Try.prog (q + 3) (.func (.func 59) #[] #[]) [.agg ⟨b32 s.l⟩, v] h = some (.ok v', h') ∧ v' = .agg ⟨b32 (shaStep s b).l⟩ ∧ Fr h.nx h h' := by
  rw [fcall_inl inl59 iso59, evF_eq Try.func59 rfl]
  apply evEnd_of_W
  simp only [Try.f59]
  have hls := St.l_length s
  have hcs := fun (kd : Kind) (es : Nat) => cut32 (k := kd) (es := es) hls
  have hps := fun (H : Heap) (p : Nat) => puts32 (h := H) (b := p) (es := 1) hls (List.length_replicate (n := 8) (a := 0#32))
  by_cases h64 : b.length = 64
  · repeat (first
    | refine R_seq ?_ | refine R_region ?_ | refine R_nil ?_ | refine Q_seq ?_ | refine Q_norm ?_ | refine Q_seqr ?_ | refine Q_seqx ?_ | refine Q_bl ?_ | refine Q_blr ?_ | refine Q_blx ?_ | refine Q_blo rfl ?_ | refine R_block ?_ | refine R_skip ?_ | refine R_exit ?_ | refine R_ret ?_ | refine I_true ?_ | refine I_false ?_ | refine N_exit ?_ | refine N_ret ?_
    | (refine R_draw (by kernel_rfl) ?_)
    | ((first | apply R_op | apply R_op0)
       · (first | (simp (maxDischargeDepth := 9) only [RA, Nat.reduceEqDiff, Nat.reduceLT, Nat.reduceLeDiff, Nat.reduceAdd, Nat.reduceSub, Nat.reduceMul, Nat.reduceDiv, Nat.reduceMod, Nat.reducePow, Nat.reduceBEq, Nat.reduceGT, reduceIte, S38len hb, h64, rep32, hls, hcs, T1, T3, T5, T22, T38, T47, T94, T98, cv8_32 Try.underlying5 Try.underlying22] <;> rfl) | ((repeat (first | (simp (maxDischargeDepth := 9) only [RA, Nat.reduceEqDiff, Nat.reduceLT, Nat.reduceLeDiff, Nat.reduceAdd, Nat.reduceSub, Nat.reduceMul, Nat.reduceDiv, Nat.reduceMod, Nat.reducePow, Nat.reduceBEq, Nat.reduceGT, reduceIte, S38len hb, h64, rep32, hls, hcs, T1, T3, T5, T22, T38, T47, T94, T98, cv8_32 Try.underlying5 Try.underlying22]; done) | simp (maxDischargeDepth := 9) only [RA, Nat.reduceEqDiff, Nat.reduceLT, Nat.reduceLeDiff, Nat.reduceAdd, Nat.reduceSub, Nat.reduceMul, Nat.reduceDiv, Nat.reduceMod, Nat.reducePow, Nat.reduceBEq, Nat.reduceGT, reduceIte, S38len hb, h64, rep32, hls, hcs, T1, T3, T5, T22, T38, T47, T94, T98, cv8_32 Try.underlying5 Try.underlying22] | simp (disch := first | assumption | omega) only [RV, S38len hb, h64, rep32, hls, hcs, T1, T3, T5, T22, T38, T47, T94, T98, cv8_32 Try.underlying5 Try.underlying22])) <;> rfl)))
    | (apply R_cond
       · (simp only [RE, Nat.reduceEqDiff, Nat.reduceLT, Nat.reduceLeDiff, Nat.reduceBEq, reduceIte, S38len hb, h64, rep32, hls, hcs, T1, T3, T5, T22, T38, T47, T94, T98, cv8_32 Try.underlying5 Try.underlying22] <;> rfl))
    | (apply R_grd
       · (simp only [yieldedA, RY, Nat.reduceEqDiff, reduceIte, S38len hb, h64, rep32, hls, hcs, T1, T3, T5, T22, T38, T47, T94, T98, cv8_32 Try.underlying5 Try.underlying22] <;> rfl)))
    refine W_loopK [1, 2, 4] [h.nx, h.nx + 1] (fun k e1 h1 => e1 6 = iv (4 * k) ∧ Ow (h.nx + 2) 1 h1 (e1 5) k (b32 (wl b k)) ∧ Fr h.nx h h1) 16 (by decide) ?_ ?_ ?_
    · refine ⟨by (try simp only [List.map_cons, List.map_nil, RH, Nat.reduceAdd, Nat.reduceEqDiff, reduceIte, ev_tmp, ev_const, lit_iv, lit_w8, lit_w32, lit_w64, envOf0, envOf1, envOf2, envOf3, envOf4, envOf5, T1, T3, T5, T22, T38, T47, T94, T98, cv8_32 Try.underlying5 Try.underlying22]), ?_, by (repeat (first | assumption | exact Fr.refl _ _ | refine Fr.new ?_ ?_ _ _ _ | refine Fr.put ?_ ?_ _ | omega | (simp only [RH]; omega)))⟩
      (try simp only [List.map_cons, List.map_nil, RH, Nat.reduceAdd, Nat.reduceEqDiff, reduceIte, ev_tmp, ev_const, lit_iv, lit_w8, lit_w32, lit_w64, envOf0, envOf1, envOf2, envOf3, envOf4, envOf5, T1, T3, T5, T22, T38, T47, T94, T98, cv8_32 Try.underlying5 Try.underlying22])
      unfold wl; exact .nil
    · intro k hk e1 h1 hK hO hN ⟨j6, own1, F1⟩
      simp only [List.map_cons, List.map_nil, List.cons.injEq, and_true, RH, Nat.reduceAdd, Nat.reduceEqDiff, reduceIte, envOf0, envOf1, envOf2, envOf3, envOf4, envOf5, rep32] at hK
      obtain ⟨K0_1, K0_2, K0_4⟩ := hK
      simp only [List.map_cons, List.map_nil, List.cons.injEq, and_true, RH, Nat.reduceAdd, Nat.reduceEqDiff, reduceIte, envOf0, envOf1, envOf2, envOf3, envOf4, envOf5, rep32] at hO
      obtain ⟨O0_0, O0_1⟩ := hO
      try simp only [RH] at hN
      have a0 : 4 * k < b.length := by omega
      have a1 : 4 * k + 1 < b.length := by omega
      have a2 : 4 * k + 2 < b.length := by omega
      have a3 : 4 * k + 3 < b.length := by omega
      have a4 : 4 * k < 64 := by omega
      repeat (first
        | refine R_seq ?_ | refine R_region ?_ | refine R_nil ?_ | refine Q_seq ?_ | refine Q_norm ?_ | refine Q_seqr ?_ | refine Q_seqx ?_ | refine Q_bl ?_ | refine Q_blr ?_ | refine Q_blx ?_ | refine Q_blo rfl ?_ | refine R_block ?_ | refine R_skip ?_ | refine R_exit ?_ | refine R_ret ?_ | refine I_true ?_ | refine I_false ?_ | refine N_exit ?_ | refine N_ret ?_
        | (refine R_draw (by kernel_rfl) ?_)
        | ((first | apply R_op | apply R_op0)
           · (first | (simp (maxDischargeDepth := 9) only [RA, Nat.reduceEqDiff, Nat.reduceLT, Nat.reduceLeDiff, Nat.reduceAdd, Nat.reduceSub, Nat.reduceMul, Nat.reduceDiv, Nat.reduceMod, Nat.reducePow, Nat.reduceBEq, Nat.reduceGT, reduceIte, j6, a0, a1, a2, a3, a4, S38ia hb, S38ld hb, F1, T1, T3, T5, T22, T38, T47, T94, T98, cv8_32 Try.underlying5 Try.underlying22, K0_1, K0_2, K0_4, O0_0, O0_1] <;> rfl) | ((repeat (first | (simp (maxDischargeDepth := 9) only [RA, Nat.reduceEqDiff, Nat.reduceLT, Nat.reduceLeDiff, Nat.reduceAdd, Nat.reduceSub, Nat.reduceMul, Nat.reduceDiv, Nat.reduceMod, Nat.reducePow, Nat.reduceBEq, Nat.reduceGT, reduceIte, j6, a0, a1, a2, a3, a4, S38ia hb, S38ld hb, F1, T1, T3, T5, T22, T38, T47, T94, T98, cv8_32 Try.underlying5 Try.underlying22, K0_1, K0_2, K0_4, O0_0, O0_1]; done) | simp (maxDischargeDepth := 9) only [RA, Nat.reduceEqDiff, Nat.reduceLT, Nat.reduceLeDiff, Nat.reduceAdd, Nat.reduceSub, Nat.reduceMul, Nat.reduceDiv, Nat.reduceMod, Nat.reducePow, Nat.reduceBEq, Nat.reduceGT, reduceIte, j6, a0, a1, a2, a3, a4, S38ia hb, S38ld hb, F1, T1, T3, T5, T22, T38, T47, T94, T98, cv8_32 Try.underlying5 Try.underlying22, K0_1, K0_2, K0_4, O0_0, O0_1] | simp (disch := first | assumption | omega) only [RV, j6, a0, a1, a2, a3, a4, S38ia hb, S38ld hb, F1, T1, T3, T5, T22, T38, T47, T94, T98, cv8_32 Try.underlying5 Try.underlying22, K0_1, K0_2, K0_4, O0_0, O0_1])) <;> rfl)))
        | (apply R_cond
           · (simp only [RE, Nat.reduceEqDiff, Nat.reduceLT, Nat.reduceLeDiff, Nat.reduceBEq, reduceIte, j6, a0, a1, a2, a3, a4, S38ia hb, S38ld hb, F1, T1, T3, T5, T22, T38, T47, T94, T98, cv8_32 Try.underlying5 Try.underlying22, K0_1, K0_2, K0_4, O0_0, O0_1] <;> rfl))
        | (apply R_grd
           · (simp only [yieldedA, RY, Nat.reduceEqDiff, reduceIte, j6, a0, a1, a2, a3, a4, S38ia hb, S38ld hb, F1, T1, T3, T5, T22, T38, T47, T94, T98, cv8_32 Try.underlying5 Try.underlying22, K0_1, K0_2, K0_4, O0_0, O0_1] <;> rfl)))
      refine R_appG E98 Try.underlying98 (v := e1 5) (w := .slice (some ⟨h1.nx, 0, none⟩) 1 1) (lo := h.nx + 2) (n := k) (cs := b32 (wl b k)) (ys := [_]) ?_ ?_ own1.new one_sl rfl (by simp only [RH]; omega) (by omega) ?_
      · first | rfl | (first | rw [ev_tmp] | rw [ev_const] | skip) <;> simp only [upd_apply, Nat.reduceEqDiff, if_true, if_false, reduceIte, lit_iv, lit_w8, K0_1, K0_2, K0_4, O0_0, O0_1]
      · first | rfl | (first | rw [ev_tmp] | rw [ev_const] | skip) <;> simp only [upd_apply, Nat.reduceEqDiff, if_true, if_false, reduceIte, lit_iv, lit_w8, K0_1, K0_2, K0_4, O0_0, O0_1]
      intro v3 h3 own3 wt3
      have w0 := wt3.rest h.nx (by simp only [RH]; omega) (fun hr => by have := (own1.rows _ hr).1; omega)
      have w1 := wt3.rest (h.nx + 1) (by simp only [RH]; omega) (fun hr => by have := (own1.rows _ hr).1; omega)
      have wn := wt3.nx
      have g0 : (h.nx = h1.nx) = False := eq_false (by omega)
      have g1 : (h.nx + 1 = h1.nx) = False := eq_false (by omega)
      simp only [RH, g0, g1] at w0 w1 wn
      repeat (first
        | refine R_seq ?_ | refine R_region ?_ | refine R_nil ?_ | refine Q_seq ?_ | refine Q_norm ?_ | refine Q_seqr ?_ | refine Q_seqx ?_ | refine Q_bl ?_ | refine Q_blr ?_ | refine Q_blx ?_ | refine Q_blo rfl ?_ | refine R_block ?_ | refine R_skip ?_ | refine R_exit ?_ | refine R_ret ?_ | refine I_true ?_ | refine I_false ?_ | refine N_exit ?_ | refine N_ret ?_
        | (refine R_draw (by kernel_rfl) ?_)
        | ((first | apply R_op | apply R_op0)
           · (first | (simp (maxDischargeDepth := 9) only [RA, Nat.reduceEqDiff, Nat.reduceLT, Nat.reduceLeDiff, Nat.reduceAdd, Nat.reduceSub, Nat.reduceMul, Nat.reduceDiv, Nat.reduceMod, Nat.reducePow, Nat.reduceBEq, Nat.reduceGT, reduceIte, j6, T1, T3, T5, T22, T38, T47, T94, T98, cv8_32 Try.underlying5 Try.underlying22, K0_1, K0_2, K0_4, O0_0, O0_1] <;> rfl) | ((repeat (first | (simp (maxDischargeDepth := 9) only [RA, Nat.reduceEqDiff, Nat.reduceLT, Nat.reduceLeDiff, Nat.reduceAdd, Nat.reduceSub, Nat.reduceMul, Nat.reduceDiv, Nat.reduceMod, Nat.reducePow, Nat.reduceBEq, Nat.reduceGT, reduceIte, j6, T1, T3, T5, T22, T38, T47, T94, T98, cv8_32 Try.underlying5 Try.underlying22, K0_1, K0_2, K0_4, O0_0, O0_1]; done) | simp (maxDischargeDepth := 9) only [RA, Nat.reduceEqDiff, Nat.reduceLT, Nat.reduceLeDiff, Nat.reduceAdd, Nat.reduceSub, Nat.reduceMul, Nat.reduceDiv, Nat.reduceMod, Nat.reducePow, Nat.reduceBEq, Nat.reduceGT, reduceIte, j6, T1, T3, T5, T22, T38, T47, T94, T98, cv8_32 Try.underlying5 Try.underlying22, K0_1, K0_2, K0_4, O0_0, O0_1] | simp (disch := first | assumption | omega) only [RV, j6, T1, T3, T5, T22, T38, T47, T94, T98, cv8_32 Try.underlying5 Try.underlying22, K0_1, K0_2, K0_4, O0_0, O0_1])) <;> rfl)))
        | (apply R_cond
           · (simp only [RE, Nat.reduceEqDiff, Nat.reduceLT, Nat.reduceLeDiff, Nat.reduceBEq, reduceIte, j6, T1, T3, T5, T22, T38, T47, T94, T98, cv8_32 Try.underlying5 Try.underlying22, K0_1, K0_2, K0_4, O0_0, O0_1] <;> rfl))
        | (apply R_grd
           · (simp only [yieldedA, RY, Nat.reduceEqDiff, reduceIte, j6, T1, T3, T5, T22, T38, T47, T94, T98, cv8_32 Try.underlying5 Try.underlying22, K0_1, K0_2, K0_4, O0_0, O0_1] <;> rfl)))
      refine ⟨rfl, by first | rfl | simp only [List.map_cons, List.map_nil, RH, Nat.reduceAdd, Nat.reduceEqDiff, reduceIte, w0, w1, T1, T3, T5, T22, T38, T47, T94, T98, cv8_32 Try.underlying5 Try.underlying22, K0_1, K0_2, K0_4, O0_0, O0_1], by first | rfl | simp only [List.map_cons, List.map_nil, RH, Nat.reduceAdd, Nat.reduceEqDiff, reduceIte, w0, w1, T1, T3, T5, T22, T38, T47, T94, T98, cv8_32 Try.underlying5 Try.underlying22, K0_1, K0_2, K0_4, O0_0, O0_1], by first | (simp only [RH, w0, w1, T1, T3, T5, T22, T38, T47, T94, T98, cv8_32 Try.underlying5 Try.underlying22, K0_1, K0_2, K0_4, O0_0, O0_1]; done) | ((try simp only [RH, w0, w1, T1, T3, T5, T22, T38, T47, T94, T98, cv8_32 Try.underlying5 Try.underlying22, K0_1, K0_2, K0_4, O0_0, O0_1]); omega), ?_⟩
      refine ⟨?_, ?_, ?_⟩
      · (try simp only [List.map_cons, List.map_nil, RH, Nat.reduceAdd, Nat.reduceEqDiff, reduceIte, ev_tmp, ev_const, lit_iv, lit_w8, lit_w32, lit_w64, envOf0, envOf1, envOf2, envOf3, envOf4, envOf5, T1, T3, T5, T22, T38, T47, T94, T98, cv8_32 Try.underlying5 Try.underlying22, K0_1, K0_2, K0_4, O0_0, O0_1])
        rw [show 4 * k + 4 = 4 * (k + 1) by omega]
      · (try simp only [List.map_cons, List.map_nil, RH, Nat.reduceAdd, Nat.reduceEqDiff, reduceIte, ev_tmp, ev_const, lit_iv, lit_w8, lit_w32, lit_w64, envOf0, envOf1, envOf2, envOf3, envOf4, envOf5, T1, T3, T5, T22, T38, T47, T94, T98, cv8_32 Try.underlying5 Try.underlying22, K0_1, K0_2, K0_4, O0_0, O0_1])
        have e1 : wl b (k + 1) = wl b k ++ [wAt b k] := by
          conv => lhs; unfold wl
          rw [if_pos (by omega)]
        rw [e1, b32_append]
        exact own3
      · refine Fr.trans (h1 := newRowH _ _ _ _) ?_ (wt3.fr (by simp only [RH]; omega) fun r hr => by have := (own1.rows _ hr).1; omega)
        (repeat (first | assumption | exact Fr.refl _ _ | refine Fr.new ?_ ?_ _ _ _ | refine Fr.put ?_ ?_ _ | omega | (simp only [RH]; omega)))
    · intro e1 h1 hK hO hN ⟨j6, own1, F1⟩
      simp only [List.map_cons, List.map_nil, List.cons.injEq, and_true, RH, Nat.reduceAdd, Nat.reduceEqDiff, reduceIte, envOf0, envOf1, envOf2, envOf3, envOf4, envOf5, rep32] at hK
      obtain ⟨K0_1, K0_2, K0_4⟩ := hK
      simp only [List.map_cons, List.map_nil, List.cons.injEq, and_true, RH, Nat.reduceAdd, Nat.reduceEqDiff, reduceIte, envOf0, envOf1, envOf2, envOf3, envOf4, envOf5, rep32] at hO
      obtain ⟨O0_0, O0_1⟩ := hO
      try simp only [RH] at hN
      repeat (first
        | refine R_seq ?_ | refine R_region ?_ | refine R_nil ?_ | refine Q_seq ?_ | refine Q_norm ?_ | refine Q_seqr ?_ | refine Q_seqx ?_ | refine Q_bl ?_ | refine Q_blr ?_ | refine Q_blx ?_ | refine Q_blo rfl ?_ | refine R_block ?_ | refine R_skip ?_ | refine R_exit ?_ | refine R_ret ?_ | refine I_true ?_ | refine I_false ?_ | refine N_exit ?_ | refine N_ret ?_
        | (refine R_draw (by kernel_rfl) ?_)
        | ((first | apply R_op | apply R_op0)
           · (first | (simp (maxDischargeDepth := 9) only [RA, Nat.reduceEqDiff, Nat.reduceLT, Nat.reduceLeDiff, Nat.reduceAdd, Nat.reduceSub, Nat.reduceMul, Nat.reduceDiv, Nat.reduceMod, Nat.reducePow, Nat.reduceBEq, Nat.reduceGT, reduceIte, j6, T1, T3, T5, T22, T38, T47, T94, T98, cv8_32 Try.underlying5 Try.underlying22, K0_1, K0_2, K0_4, O0_0, O0_1] <;> rfl) | ((repeat (first | (simp (maxDischargeDepth := 9) only [RA, Nat.reduceEqDiff, Nat.reduceLT, Nat.reduceLeDiff, Nat.reduceAdd, Nat.reduceSub, Nat.reduceMul, Nat.reduceDiv, Nat.reduceMod, Nat.reducePow, Nat.reduceBEq, Nat.reduceGT, reduceIte, j6, T1, T3, T5, T22, T38, T47, T94, T98, cv8_32 Try.underlying5 Try.underlying22, K0_1, K0_2, K0_4, O0_0, O0_1]; done) | simp (maxDischargeDepth := 9) only [RA, Nat.reduceEqDiff, Nat.reduceLT, Nat.reduceLeDiff, Nat.reduceAdd, Nat.reduceSub, Nat.reduceMul, Nat.reduceDiv, Nat.reduceMod, Nat.reducePow, Nat.reduceBEq, Nat.reduceGT, reduceIte, j6, T1, T3, T5, T22, T38, T47, T94, T98, cv8_32 Try.underlying5 Try.underlying22, K0_1, K0_2, K0_4, O0_0, O0_1] | simp (disch := first | assumption | omega) only [RV, j6, T1, T3, T5, T22, T38, T47, T94, T98, cv8_32 Try.underlying5 Try.underlying22, K0_1, K0_2, K0_4, O0_0, O0_1])) <;> rfl)))
        | (apply R_cond
           · (simp only [RE, Nat.reduceEqDiff, Nat.reduceLT, Nat.reduceLeDiff, Nat.reduceBEq, reduceIte, j6, T1, T3, T5, T22, T38, T47, T94, T98, cv8_32 Try.underlying5 Try.underlying22, K0_1, K0_2, K0_4, O0_0, O0_1] <;> rfl))
        | (apply R_grd
           · (simp only [yieldedA, RY, Nat.reduceEqDiff, reduceIte, j6, T1, T3, T5, T22, T38, T47, T94, T98, cv8_32 Try.underlying5 Try.underlying22, K0_1, K0_2, K0_4, O0_0, O0_1] <;> rfl)))
      refine W_loopK [2, 4] [h.nx, h.nx + 1] (fun k e2 h2 => e2 7 = iv (16 + k) ∧ Ow (h.nx + 2) 1 h2 (e2 5) (16 + k) (b32 (wl b (16 + k))) ∧ Fr h.nx h h2) 48 (by decide) ?_ ?_ ?_
      · exact ⟨by (try simp only [List.map_cons, List.map_nil, RH, Nat.reduceAdd, Nat.reduceEqDiff, reduceIte, ev_tmp, ev_const, lit_iv, lit_w8, lit_w32, lit_w64, envOf0, envOf1, envOf2, envOf3, envOf4, envOf5, T1, T3, T5, T22, T38, T47, T94, T98, cv8_32 Try.underlying5 Try.underlying22, K0_1, K0_2, K0_4, O0_0, O0_1]), by (try simp only [List.map_cons, List.map_nil, RH, Nat.reduceAdd, Nat.reduceEqDiff, reduceIte, ev_tmp, ev_const, lit_iv, lit_w8, lit_w32, lit_w64, envOf0, envOf1, envOf2, envOf3, envOf4, envOf5, T1, T3, T5, T22, T38, T47, T94, T98, cv8_32 Try.underlying5 Try.underlying22, K0_1, K0_2, K0_4, O0_0, O0_1]); exact own1, F1⟩
      · intro k hk e2 h2 hK hO hN ⟨j7, own2, F2⟩
        simp only [List.map_cons, List.map_nil, List.cons.injEq, and_true, RH, Nat.reduceAdd, Nat.reduceEqDiff, reduceIte, envOf0, envOf1, envOf2, envOf3, envOf4, envOf5, K0_1, K0_2, K0_4, O0_0, O0_1] at hK
        obtain ⟨K1_2, K1_4⟩ := hK
        simp only [List.map_cons, List.map_nil, List.cons.injEq, and_true, RH, Nat.reduceAdd, Nat.reduceEqDiff, reduceIte, envOf0, envOf1, envOf2, envOf3, envOf4, envOf5, K0_1, K0_2, K0_4, O0_0, O0_1] at hO
        obtain ⟨O1_0, O1_1⟩ := hO
        try simp only [RH] at hN
        have hwl := wl_length b (16 + k)
        have hi64 : 16 + k < 64 := by omega
        repeat (first
          | refine R_seq ?_ | refine R_region ?_ | refine R_nil ?_ | refine Q_seq ?_ | refine Q_norm ?_ | refine Q_seqr ?_ | refine Q_seqx ?_ | refine Q_bl ?_ | refine Q_blr ?_ | refine Q_blx ?_ | refine Q_blo rfl ?_ | refine R_block ?_ | refine R_skip ?_ | refine R_exit ?_ | refine R_ret ?_ | refine I_true ?_ | refine I_false ?_ | refine N_exit ?_ | refine N_ret ?_
          | (refine R_draw (by kernel_rfl) ?_)
          | ((first | apply R_op | apply R_op0)
             · (first | (simp (maxDischargeDepth := 9) only [RA, Nat.reduceEqDiff, Nat.reduceLT, Nat.reduceLeDiff, Nat.reduceAdd, Nat.reduceSub, Nat.reduceMul, Nat.reduceDiv, Nat.reduceMod, Nat.reducePow, Nat.reduceBEq, Nat.reduceGT, reduceIte, j7, hi64, S98ia own2.sl, sw_ld Try.underlying22 inf22 own2.sl fr_refl, right96 (q + 1) _ 17 (by decide) (by decide), right96 (q + 1) _ 19 (by decide) (by decide), right96 (q + 1) _ 7 (by decide) (by decide), right96 (q + 1) _ 18 (by decide) (by decide), T1, T3, T5, T22, T38, T47, T94, T98, cv8_32 Try.underlying5 Try.underlying22, K0_1, K0_2, K0_4, O0_0, O0_1, K1_2, K1_4, O1_0, O1_1] <;> rfl) | ((repeat (first | (simp (maxDischargeDepth := 9) only [RA, Nat.reduceEqDiff, Nat.reduceLT, Nat.reduceLeDiff, Nat.reduceAdd, Nat.reduceSub, Nat.reduceMul, Nat.reduceDiv, Nat.reduceMod, Nat.reducePow, Nat.reduceBEq, Nat.reduceGT, reduceIte, j7, hi64, S98ia own2.sl, sw_ld Try.underlying22 inf22 own2.sl fr_refl, right96 (q + 1) _ 17 (by decide) (by decide), right96 (q + 1) _ 19 (by decide) (by decide), right96 (q + 1) _ 7 (by decide) (by decide), right96 (q + 1) _ 18 (by decide) (by decide), T1, T3, T5, T22, T38, T47, T94, T98, cv8_32 Try.underlying5 Try.underlying22, K0_1, K0_2, K0_4, O0_0, O0_1, K1_2, K1_4, O1_0, O1_1]; done) | simp (maxDischargeDepth := 9) only [RA, Nat.reduceEqDiff, Nat.reduceLT, Nat.reduceLeDiff, Nat.reduceAdd, Nat.reduceSub, Nat.reduceMul, Nat.reduceDiv, Nat.reduceMod, Nat.reducePow, Nat.reduceBEq, Nat.reduceGT, reduceIte, j7, hi64, S98ia own2.sl, sw_ld Try.underlying22 inf22 own2.sl fr_refl, right96 (q + 1) _ 17 (by decide) (by decide), right96 (q + 1) _ 19 (by decide) (by decide), right96 (q + 1) _ 7 (by decide) (by decide), right96 (q + 1) _ 18 (by decide) (by decide), T1, T3, T5, T22, T38, T47, T94, T98, cv8_32 Try.underlying5 Try.underlying22, K0_1, K0_2, K0_4, O0_0, O0_1, K1_2, K1_4, O1_0, O1_1] | simp (disch := first | assumption | omega) only [RV, j7, hi64, S98ia own2.sl, sw_ld Try.underlying22 inf22 own2.sl fr_refl, right96 (q + 1) _ 17 (by decide) (by decide), right96 (q + 1) _ 19 (by decide) (by decide), right96 (q + 1) _ 7 (by decide) (by decide), right96 (q + 1) _ 18 (by decide) (by decide), T1, T3, T5, T22, T38, T47, T94, T98, cv8_32 Try.underlying5 Try.underlying22, K0_1, K0_2, K0_4, O0_0, O0_1, K1_2, K1_4, O1_0, O1_1])) <;> rfl)))
          | (apply R_cond
             · (simp only [RE, Nat.reduceEqDiff, Nat.reduceLT, Nat.reduceLeDiff, Nat.reduceBEq, reduceIte, j7, hi64, S98ia own2.sl, sw_ld Try.underlying22 inf22 own2.sl fr_refl, right96 (q + 1) _ 17 (by decide) (by decide), right96 (q + 1) _ 19 (by decide) (by decide), right96 (q + 1) _ 7 (by decide) (by decide), right96 (q + 1) _ 18 (by decide) (by decide), T1, T3, T5, T22, T38, T47, T94, T98, cv8_32 Try.underlying5 Try.underlying22, K0_1, K0_2, K0_4, O0_0, O0_1, K1_2, K1_4, O1_0, O1_1] <;> rfl))
          | (apply R_grd
             · (simp only [yieldedA, RY, Nat.reduceEqDiff, reduceIte, j7, hi64, S98ia own2.sl, sw_ld Try.underlying22 inf22 own2.sl fr_refl, right96 (q + 1) _ 17 (by decide) (by decide), right96 (q + 1) _ 19 (by decide) (by decide), right96 (q + 1) _ 7 (by decide) (by decide), right96 (q + 1) _ 18 (by decide) (by decide), T1, T3, T5, T22, T38, T47, T94, T98, cv8_32 Try.underlying5 Try.underlying22, K0_1, K0_2, K0_4, O0_0, O0_1, K1_2, K1_4, O1_0, O1_1] <;> rfl)))
        refine R_appG E98 Try.underlying98 (v := e2 5) (w := .slice (some ⟨h2.nx, 0, none⟩) 1 1) (lo := h.nx + 2) (n := 16 + k) (cs := b32 (wl b (16 + k))) (ys := [_]) ?_ ?_ own2.new one_sl rfl (by simp only [RH]; omega) (by omega) ?_
        · first | rfl | (first | rw [ev_tmp] | rw [ev_const] | skip) <;> simp only [upd_apply, Nat.reduceEqDiff, if_true, if_false, reduceIte, lit_iv, lit_w8, K0_1, K0_2, K0_4, O0_0, O0_1, K1_2, K1_4, O1_0, O1_1]
        · first | rfl | (first | rw [ev_tmp] | rw [ev_const] | skip) <;> simp only [upd_apply, Nat.reduceEqDiff, if_true, if_false, reduceIte, lit_iv, lit_w8, K0_1, K0_2, K0_4, O0_0, O0_1, K1_2, K1_4, O1_0, O1_1]
        intro v3 h3 own3 wt3
        have w0 := wt3.rest h.nx (by simp only [RH]; omega) (fun hr => by have := (own2.rows _ hr).1; omega)
        have w1 := wt3.rest (h.nx + 1) (by simp only [RH]; omega) (fun hr => by have := (own2.rows _ hr).1; omega)
        have wn := wt3.nx
        have g0 : (h.nx = h2.nx) = False := eq_false (by omega)
        have g1 : (h.nx + 1 = h2.nx) = False := eq_false (by omega)
        simp only [RH, g0, g1] at w0 w1 wn
        repeat (first
          | refine R_seq ?_ | refine R_region ?_ | refine R_nil ?_ | refine Q_seq ?_ | refine Q_norm ?_ | refine Q_seqr ?_ | refine Q_seqx ?_ | refine Q_bl ?_ | refine Q_blr ?_ | refine Q_blx ?_ | refine Q_blo rfl ?_ | refine R_block ?_ | refine R_skip ?_ | refine R_exit ?_ | refine R_ret ?_ | refine I_true ?_ | refine I_false ?_ | refine N_exit ?_ | refine N_ret ?_
          | (refine R_draw (by kernel_rfl) ?_)
          | ((first | apply R_op | apply R_op0)
             · (first | (simp (maxDischargeDepth := 9) only [RA, Nat.reduceEqDiff, Nat.reduceLT, Nat.reduceLeDiff, Nat.reduceAdd, Nat.reduceSub, Nat.reduceMul, Nat.reduceDiv, Nat.reduceMod, Nat.reducePow, Nat.reduceBEq, Nat.reduceGT, reduceIte, j7, T1, T3, T5, T22, T38, T47, T94, T98, cv8_32 Try.underlying5 Try.underlying22, K0_1, K0_2, K0_4, O0_0, O0_1, K1_2, K1_4, O1_0, O1_1] <;> rfl) | ((repeat (first | (simp (maxDischargeDepth := 9) only [RA, Nat.reduceEqDiff, Nat.reduceLT, Nat.reduceLeDiff, Nat.reduceAdd, Nat.reduceSub, Nat.reduceMul, Nat.reduceDiv, Nat.reduceMod, Nat.reducePow, Nat.reduceBEq, Nat.reduceGT, reduceIte, j7, T1, T3, T5, T22, T38, T47, T94, T98, cv8_32 Try.underlying5 Try.underlying22, K0_1, K0_2, K0_4, O0_0, O0_1, K1_2, K1_4, O1_0, O1_1]; done) | simp (maxDischargeDepth := 9) only [RA, Nat.reduceEqDiff, Nat.reduceLT, Nat.reduceLeDiff, Nat.reduceAdd, Nat.reduceSub, Nat.reduceMul, Nat.reduceDiv, Nat.reduceMod, Nat.reducePow, Nat.reduceBEq, Nat.reduceGT, reduceIte, j7, T1, T3, T5, T22, T38, T47, T94, T98, cv8_32 Try.underlying5 Try.underlying22, K0_1, K0_2, K0_4, O0_0, O0_1, K1_2, K1_4, O1_0, O1_1] | simp (disch := first | assumption | omega) only [RV, j7, T1, T3, T5, T22, T38, T47, T94, T98, cv8_32 Try.underlying5 Try.underlying22, K0_1, K0_2, K0_4, O0_0, O0_1, K1_2, K1_4, O1_0, O1_1])) <;> rfl)))
          | (apply R_cond
             · (simp only [RE, Nat.reduceEqDiff, Nat.reduceLT, Nat.reduceLeDiff, Nat.reduceBEq, reduceIte, j7, T1, T3, T5, T22, T38, T47, T94, T98, cv8_32 Try.underlying5 Try.underlying22, K0_1, K0_2, K0_4, O0_0, O0_1, K1_2, K1_4, O1_0, O1_1] <;> rfl))
          | (apply R_grd
             · (simp only [yieldedA, RY, Nat.reduceEqDiff, reduceIte, j7, T1, T3, T5, T22, T38, T47, T94, T98, cv8_32 Try.underlying5 Try.underlying22, K0_1, K0_2, K0_4, O0_0, O0_1, K1_2, K1_4, O1_0, O1_1] <;> rfl)))
        refine ⟨rfl, by first | rfl | simp only [List.map_cons, List.map_nil, RH, Nat.reduceAdd, Nat.reduceEqDiff, reduceIte, w0, w1, T1, T3, T5, T22, T38, T47, T94, T98, cv8_32 Try.underlying5 Try.underlying22, K0_1, K0_2, K0_4, O0_0, O0_1, K1_2, K1_4, O1_0, O1_1], by first | rfl | simp only [List.map_cons, List.map_nil, RH, Nat.reduceAdd, Nat.reduceEqDiff, reduceIte, w0, w1, T1, T3, T5, T22, T38, T47, T94, T98, cv8_32 Try.underlying5 Try.underlying22, K0_1, K0_2, K0_4, O0_0, O0_1, K1_2, K1_4, O1_0, O1_1], by first | (simp only [RH, w0, w1, T1, T3, T5, T22, T38, T47, T94, T98, cv8_32 Try.underlying5 Try.underlying22, K0_1, K0_2, K0_4, O0_0, O0_1, K1_2, K1_4, O1_0, O1_1]; done) | ((try simp only [RH, w0, w1, T1, T3, T5, T22, T38, T47, T94, T98, cv8_32 Try.underlying5 Try.underlying22, K0_1, K0_2, K0_4, O0_0, O0_1, K1_2, K1_4, O1_0, O1_1]); omega), ?_⟩
        refine ⟨?_, ?_, ?_⟩
        · (try simp only [List.map_cons, List.map_nil, RH, Nat.reduceAdd, Nat.reduceEqDiff, reduceIte, ev_tmp, ev_const, lit_iv, lit_w8, lit_w32, lit_w64, envOf0, envOf1, envOf2, envOf3, envOf4, envOf5, Nat.add_assoc, T1, T3, T5, T22, T38, T47, T94, T98, cv8_32 Try.underlying5 Try.underlying22, K0_1, K0_2, K0_4, O0_0, O0_1, K1_2, K1_4, O1_0, O1_1])
        · (try simp only [List.map_cons, List.map_nil, RH, Nat.reduceAdd, Nat.reduceEqDiff, reduceIte, ev_tmp, ev_const, lit_iv, lit_w8, lit_w32, lit_w64, envOf0, envOf1, envOf2, envOf3, envOf4, envOf5, T1, T3, T5, T22, T38, T47, T94, T98, cv8_32 Try.underlying5 Try.underlying22, K0_1, K0_2, K0_4, O0_0, O0_1, K1_2, K1_4, O1_0, O1_1])
          have e1 : wl b (16 + (k + 1)) = wl b (16 + k) ++ [wNext (wl b (16 + k)) (16 + k)] := by
            rw [← Nat.add_assoc]
            conv => lhs; unfold wl
            rw [if_neg (by omega)]
          rw [e1, b32_append]
          exact own3
        · refine Fr.trans (h1 := newRowH _ _ _ _) ?_ (wt3.fr (by simp only [RH]; omega) fun r hr => by have := (own2.rows _ hr).1; omega)
          (repeat (first | assumption | exact Fr.refl _ _ | refine Fr.new ?_ ?_ _ _ _ | refine Fr.put ?_ ?_ _ | omega | (simp only [RH]; omega)))
      · intro e2 h2 hK hO hN ⟨j7, own2, F2⟩
        simp only [List.map_cons, List.map_nil, List.cons.injEq, and_true, RH, Nat.reduceAdd, Nat.reduceEqDiff, reduceIte, envOf0, envOf1, envOf2, envOf3, envOf4, envOf5, K0_1, K0_2, K0_4, O0_0, O0_1] at hK
        obtain ⟨K1_2, K1_4⟩ := hK
        simp only [List.map_cons, List.map_nil, List.cons.injEq, and_true, RH, Nat.reduceAdd, Nat.reduceEqDiff, reduceIte, envOf0, envOf1, envOf2, envOf3, envOf4, envOf5, K0_1, K0_2, K0_4, O0_0, O0_1] at hO
        obtain ⟨O1_0, O1_1⟩ := hO
        try simp only [RH] at hN
        repeat (first
          | refine R_seq ?_ | refine R_region ?_ | refine R_nil ?_ | refine Q_seq ?_ | refine Q_norm ?_ | refine Q_seqr ?_ | refine Q_seqx ?_ | refine Q_bl ?_ | refine Q_blr ?_ | refine Q_blx ?_ | refine Q_blo rfl ?_ | refine R_block ?_ | refine R_skip ?_ | refine R_exit ?_ | refine R_ret ?_ | refine I_true ?_ | refine I_false ?_ | refine N_exit ?_ | refine N_ret ?_
          | ((first | apply R_op | apply R_op0)
             · (first | (simp (maxDischargeDepth := 9) only [RA, Nat.reduceEqDiff, Nat.reduceLT, Nat.reduceLeDiff, Nat.reduceAdd, Nat.reduceSub, Nat.reduceMul, Nat.reduceDiv, Nat.reduceMod, Nat.reducePow, Nat.reduceBEq, Nat.reduceGT, reduceIte, j7, hcs, rep32, hps, T1, T3, T5, T22, T38, T47, T94, T98, cv8_32 Try.underlying5 Try.underlying22, K0_1, K0_2, K0_4, O0_0, O0_1, K1_2, K1_4, O1_0, O1_1] <;> rfl) | ((repeat (first | (simp (maxDischargeDepth := 9) only [RA, Nat.reduceEqDiff, Nat.reduceLT, Nat.reduceLeDiff, Nat.reduceAdd, Nat.reduceSub, Nat.reduceMul, Nat.reduceDiv, Nat.reduceMod, Nat.reducePow, Nat.reduceBEq, Nat.reduceGT, reduceIte, j7, hcs, rep32, hps, T1, T3, T5, T22, T38, T47, T94, T98, cv8_32 Try.underlying5 Try.underlying22, K0_1, K0_2, K0_4, O0_0, O0_1, K1_2, K1_4, O1_0, O1_1]; done) | simp (maxDischargeDepth := 9) only [RA, Nat.reduceEqDiff, Nat.reduceLT, Nat.reduceLeDiff, Nat.reduceAdd, Nat.reduceSub, Nat.reduceMul, Nat.reduceDiv, Nat.reduceMod, Nat.reducePow, Nat.reduceBEq, Nat.reduceGT, reduceIte, j7, hcs, rep32, hps, T1, T3, T5, T22, T38, T47, T94, T98, cv8_32 Try.underlying5 Try.underlying22, K0_1, K0_2, K0_4, O0_0, O0_1, K1_2, K1_4, O1_0, O1_1] | simp (disch := first | assumption | omega) only [RV, j7, hcs, rep32, hps, T1, T3, T5, T22, T38, T47, T94, T98, cv8_32 Try.underlying5 Try.underlying22, K0_1, K0_2, K0_4, O0_0, O0_1, K1_2, K1_4, O1_0, O1_1])) <;> rfl)))
          | (apply R_cond
             · (simp only [RE, Nat.reduceEqDiff, Nat.reduceLT, Nat.reduceLeDiff, Nat.reduceBEq, reduceIte, j7, hcs, rep32, hps, T1, T3, T5, T22, T38, T47, T94, T98, cv8_32 Try.underlying5 Try.underlying22, K0_1, K0_2, K0_4, O0_0, O0_1, K1_2, K1_4, O1_0, O1_1] <;> rfl))
          | (apply R_grd
             · (simp only [yieldedA, RY, Nat.reduceEqDiff, reduceIte, j7, hcs, rep32, hps, T1, T3, T5, T22, T38, T47, T94, T98, cv8_32 Try.underlying5 Try.underlying22, K0_1, K0_2, K0_4, O0_0, O0_1, K1_2, K1_4, O1_0, O1_1] <;> rfl)))
        refine W_loopK [2, 4, 5, 11] [h.nx, h.nx + 1] (fun i e3 h3 => e3 12 = iv i ∧ h3.obj h2.nx = some (.row .rw 1 (b32 (rnds b s i).l)) ∧ Fr h2.nx h2 h3) 64 (by decide) ?_ ?_ ?_
        · refine ⟨by (try simp only [List.map_cons, List.map_nil, RH, Nat.reduceAdd, Nat.reduceEqDiff, reduceIte, ev_tmp, ev_const, lit_iv, lit_w8, lit_w32, lit_w64, envOf0, envOf1, envOf2, envOf3, envOf4, envOf5, T1, T3, T5, T22, T38, T47, T94, T98, cv8_32 Try.underlying5 Try.underlying22, K0_1, K0_2, K0_4, O0_0, O0_1, K1_2, K1_4, O1_0, O1_1]), ?_, by (repeat (first | assumption | exact Fr.refl _ _ | refine Fr.new ?_ ?_ _ _ _ | refine Fr.put ?_ ?_ _ | omega | (simp only [RH]; omega)))⟩
          have e0 : rnds b s 0 = s := by unfold rnds; rfl
          (try simp only [List.map_cons, List.map_nil, RH, Nat.reduceAdd, Nat.reduceEqDiff, reduceIte, ev_tmp, ev_const, lit_iv, lit_w8, lit_w32, lit_w64, envOf0, envOf1, envOf2, envOf3, envOf4, envOf5, e0, T1, T3, T5, T22, T38, T47, T94, T98, cv8_32 Try.underlying5 Try.underlying22, K0_1, K0_2, K0_4, O0_0, O0_1, K1_2, K1_4, O1_0, O1_1])
        · intro i hi e3 h3 hK hO hN ⟨j12, o3, F3⟩
          have c0 : (h.nx = h2.nx) = False := eq_false (by omega)
          have c1 : (h.nx + 1 = h2.nx) = False := eq_false (by omega)
          simp only [List.map_cons, List.map_nil, List.cons.injEq, and_true, RH, Nat.reduceAdd, Nat.reduceEqDiff, reduceIte, envOf0, envOf1, envOf2, envOf3, envOf4, envOf5, c0, c1, K0_1, K0_2, K0_4, O0_0, O0_1, K1_2, K1_4, O1_0, O1_1] at hK
          obtain ⟨K2_2, K2_4, K2_5, K2_11⟩ := hK
          simp only [List.map_cons, List.map_nil, List.cons.injEq, and_true, RH, Nat.reduceAdd, Nat.reduceEqDiff, reduceIte, envOf0, envOf1, envOf2, envOf3, envOf4, envOf5, c0, c1, K0_1, K0_2, K0_4, O0_0, O0_1, K1_2, K1_4, O1_0, O1_1] at hO
          obtain ⟨O2_0, O2_1⟩ := hO
          try simp only [RH] at hN
          have hlr := St.l_length (rnds b s i)
          have hwl := wl_length b 64
          have hs2 : Sl 1 h2 (e2 5) 64 (b32 (wl b 64)) := own2.sl
          have hps2 := fun (H : Heap) (p : Nat) (x : St) => puts32 (h := H) (b := p) (es := 1) (St.l_length x) hlr
          repeat (first
            | refine R_seq ?_ | refine R_region ?_ | refine R_nil ?_ | refine Q_seq ?_ | refine Q_norm ?_ | refine Q_seqr ?_ | refine Q_seqx ?_ | refine Q_bl ?_ | refine Q_blr ?_ | refine Q_blx ?_ | refine Q_blo rfl ?_ | refine R_block ?_ | refine R_skip ?_ | refine R_exit ?_ | refine R_ret ?_ | refine I_true ?_ | refine I_false ?_ | refine N_exit ?_ | refine N_ret ?_
            | (refine R_draw (by kernel_rfl) ?_)
            | ((first | apply R_op | apply R_op0)
               · (first | (simp (maxDischargeDepth := 9) only [RA, Nat.reduceEqDiff, Nat.reduceLT, Nat.reduceLeDiff, Nat.reduceAdd, Nat.reduceSub, Nat.reduceMul, Nat.reduceDiv, Nat.reduceMod, Nat.reducePow, Nat.reduceBEq, Nat.reduceGT, reduceIte, j12, o3, hi, hlr, sl0, sl1, sl2, sl3, sl4, sl5, sl6, sl7, right96 (q + 1) _ 6 (by decide) (by decide), right96 (q + 1) _ 11 (by decide) (by decide), right96 (q + 1) _ 25 (by decide) (by decide), right96 (q + 1) _ 2 (by decide) (by decide), right96 (q + 1) _ 13 (by decide) (by decide), right96 (q + 1) _ 22 (by decide) (by decide), k97 (q + 1) i hi, S98ia hs2, sw_ld Try.underlying22 inf22 hs2 F3, bu47, hps2, ch_eq, maj_eq, T1, T3, T5, T22, T38, T47, T94, T98, cv8_32 Try.underlying5 Try.underlying22, K0_1, K0_2, K0_4, O0_0, O0_1, K1_2, K1_4, O1_0, O1_1, K2_2, K2_4, K2_5, K2_11, O2_0, O2_1] <;> rfl) | ((repeat (first | (simp (maxDischargeDepth := 9) only [RA, Nat.reduceEqDiff, Nat.reduceLT, Nat.reduceLeDiff, Nat.reduceAdd, Nat.reduceSub, Nat.reduceMul, Nat.reduceDiv, Nat.reduceMod, Nat.reducePow, Nat.reduceBEq, Nat.reduceGT, reduceIte, j12, o3, hi, hlr, sl0, sl1, sl2, sl3, sl4, sl5, sl6, sl7, right96 (q + 1) _ 6 (by decide) (by decide), right96 (q + 1) _ 11 (by decide) (by decide), right96 (q + 1) _ 25 (by decide) (by decide), right96 (q + 1) _ 2 (by decide) (by decide), right96 (q + 1) _ 13 (by decide) (by decide), right96 (q + 1) _ 22 (by decide) (by decide), k97 (q + 1) i hi, S98ia hs2, sw_ld Try.underlying22 inf22 hs2 F3, bu47, hps2, ch_eq, maj_eq, T1, T3, T5, T22, T38, T47, T94, T98, cv8_32 Try.underlying5 Try.underlying22, K0_1, K0_2, K0_4, O0_0, O0_1, K1_2, K1_4, O1_0, O1_1, K2_2, K2_4, K2_5, K2_11, O2_0, O2_1]; done) | simp (maxDischargeDepth := 9) only [RA, Nat.reduceEqDiff, Nat.reduceLT, Nat.reduceLeDiff, Nat.reduceAdd, Nat.reduceSub, Nat.reduceMul, Nat.reduceDiv, Nat.reduceMod, Nat.reducePow, Nat.reduceBEq, Nat.reduceGT, reduceIte, j12, o3, hi, hlr, sl0, sl1, sl2, sl3, sl4, sl5, sl6, sl7, right96 (q + 1) _ 6 (by decide) (by decide), right96 (q + 1) _ 11 (by decide) (by decide), right96 (q + 1) _ 25 (by decide) (by decide), right96 (q + 1) _ 2 (by decide) (by decide), right96 (q + 1) _ 13 (by decide) (by decide), right96 (q + 1) _ 22 (by decide) (by decide), k97 (q + 1) i hi, S98ia hs2, sw_ld Try.underlying22 inf22 hs2 F3, bu47, hps2, ch_eq, maj_eq, T1, T3, T5, T22, T38, T47, T94, T98, cv8_32 Try.underlying5 Try.underlying22, K0_1, K0_2, K0_4, O0_0, O0_1, K1_2, K1_4, O1_0, O1_1, K2_2, K2_4, K2_5, K2_11, O2_0, O2_1] | simp (disch := first | assumption | omega) only [RV, j12, o3, hi, hlr, sl0, sl1, sl2, sl3, sl4, sl5, sl6, sl7, right96 (q + 1) _ 6 (by decide) (by decide), right96 (q + 1) _ 11 (by decide) (by decide), right96 (q + 1) _ 25 (by decide) (by decide), right96 (q + 1) _ 2 (by decide) (by decide), right96 (q + 1) _ 13 (by decide) (by decide), right96 (q + 1) _ 22 (by decide) (by decide), k97 (q + 1) i hi, S98ia hs2, sw_ld Try.underlying22 inf22 hs2 F3, bu47, hps2, ch_eq, maj_eq, T1, T3, T5, T22, T38, T47, T94, T98, cv8_32 Try.underlying5 Try.underlying22, K0_1, K0_2, K0_4, O0_0, O0_1, K1_2, K1_4, O1_0, O1_1, K2_2, K2_4, K2_5, K2_11, O2_0, O2_1])) <;> rfl)))
            | (apply R_cond
               · (simp only [RE, Nat.reduceEqDiff, Nat.reduceLT, Nat.reduceLeDiff, Nat.reduceBEq, reduceIte, j12, o3, hi, hlr, sl0, sl1, sl2, sl3, sl4, sl5, sl6, sl7, right96 (q + 1) _ 6 (by decide) (by decide), right96 (q + 1) _ 11 (by decide) (by decide), right96 (q + 1) _ 25 (by decide) (by decide), right96 (q + 1) _ 2 (by decide) (by decide), right96 (q + 1) _ 13 (by decide) (by decide), right96 (q + 1) _ 22 (by decide) (by decide), k97 (q + 1) i hi, S98ia hs2, sw_ld Try.underlying22 inf22 hs2 F3, bu47, hps2, ch_eq, maj_eq, T1, T3, T5, T22, T38, T47, T94, T98, cv8_32 Try.underlying5 Try.underlying22, K0_1, K0_2, K0_4, O0_0, O0_1, K1_2, K1_4, O1_0, O1_1, K2_2, K2_4, K2_5, K2_11, O2_0, O2_1] <;> rfl))
            | (apply R_grd
               · (simp only [yieldedA, RY, Nat.reduceEqDiff, reduceIte, j12, o3, hi, hlr, sl0, sl1, sl2, sl3, sl4, sl5, sl6, sl7, right96 (q + 1) _ 6 (by decide) (by decide), right96 (q + 1) _ 11 (by decide) (by decide), right96 (q + 1) _ 25 (by decide) (by decide), right96 (q + 1) _ 2 (by decide) (by decide), right96 (q + 1) _ 13 (by decide) (by decide), right96 (q + 1) _ 22 (by decide) (by decide), k97 (q + 1) i hi, S98ia hs2, sw_ld Try.underlying22 inf22 hs2 F3, bu47, hps2, ch_eq, maj_eq, T1, T3, T5, T22, T38, T47, T94, T98, cv8_32 Try.underlying5 Try.underlying22, K0_1, K0_2, K0_4, O0_0, O0_1, K1_2, K1_4, O1_0, O1_1, K2_2, K2_4, K2_5, K2_11, O2_0, O2_1] <;> rfl)))
          refine ⟨rfl, by first | rfl | simp only [List.map_cons, List.map_nil, RH, Nat.reduceAdd, Nat.reduceEqDiff, reduceIte, c0, c1, T1, T3, T5, T22, T38, T47, T94, T98, cv8_32 Try.underlying5 Try.underlying22, K0_1, K0_2, K0_4, O0_0, O0_1, K1_2, K1_4, O1_0, O1_1, K2_2, K2_4, K2_5, K2_11, O2_0, O2_1], by first | rfl | simp only [List.map_cons, List.map_nil, RH, Nat.reduceAdd, Nat.reduceEqDiff, reduceIte, c0, c1, T1, T3, T5, T22, T38, T47, T94, T98, cv8_32 Try.underlying5 Try.underlying22, K0_1, K0_2, K0_4, O0_0, O0_1, K1_2, K1_4, O1_0, O1_1, K2_2, K2_4, K2_5, K2_11, O2_0, O2_1], by first | (simp only [RH, c0, c1, T1, T3, T5, T22, T38, T47, T94, T98, cv8_32 Try.underlying5 Try.underlying22, K0_1, K0_2, K0_4, O0_0, O0_1, K1_2, K1_4, O1_0, O1_1, K2_2, K2_4, K2_5, K2_11, O2_0, O2_1]; done) | ((try simp only [RH, c0, c1, T1, T3, T5, T22, T38, T47, T94, T98, cv8_32 Try.underlying5 Try.underlying22, K0_1, K0_2, K0_4, O0_0, O0_1, K1_2, K1_4, O1_0, O1_1, K2_2, K2_4, K2_5, K2_11, O2_0, O2_1]); omega), ?_⟩
          refine ⟨by (try simp only [List.map_cons, List.map_nil, RH, Nat.reduceAdd, Nat.reduceEqDiff, reduceIte, ev_tmp, ev_const, lit_iv, lit_w8, lit_w32, lit_w64, envOf0, envOf1, envOf2, envOf3, envOf4, envOf5, T1, T3, T5, T22, T38, T47, T94, T98, cv8_32 Try.underlying5 Try.underlying22, K0_1, K0_2, K0_4, O0_0, O0_1, K1_2, K1_4, O1_0, O1_1, K2_2, K2_4, K2_5, K2_11, O2_0, O2_1]), ?_, by (repeat (first | assumption | exact Fr.refl _ _ | refine Fr.new ?_ ?_ _ _ _ | refine Fr.put ?_ ?_ _ | omega | (simp only [RH]; omega)))⟩
          (try simp only [List.map_cons, List.map_nil, RH, Nat.reduceAdd, Nat.reduceEqDiff, reduceIte, ev_tmp, ev_const, lit_iv, lit_w8, lit_w32, lit_w64, envOf0, envOf1, envOf2, envOf3, envOf4, envOf5, T1, T3, T5, T22, T38, T47, T94, T98, cv8_32 Try.underlying5 Try.underlying22, K0_1, K0_2, K0_4, O0_0, O0_1, K1_2, K1_4, O1_0, O1_1, K2_2, K2_4, K2_5, K2_11, O2_0, O2_1])
          have er : rnds b s (i + 1) = rnd (kl.getD i 0#32) ((wl b 64).getD i 0#32) (rnds b s i) := by
            conv => lhs; unfold rnds
          rw [er]
          rfl
        · intro e3 h3 hK hO hN ⟨j12, o3, F3⟩
          have c0 : (h.nx = h2.nx) = False := eq_false (by omega)
          have c1 : (h.nx + 1 = h2.nx) = False := eq_false (by omega)
          simp only [List.map_cons, List.map_nil, List.cons.injEq, and_true, RH, Nat.reduceAdd, Nat.reduceEqDiff, reduceIte, envOf0, envOf1, envOf2, envOf3, envOf4, envOf5, c0, c1, K0_1, K0_2, K0_4, O0_0, O0_1, K1_2, K1_4, O1_0, O1_1] at hK
          obtain ⟨K2_2, K2_4, K2_5, K2_11⟩ := hK
          simp only [List.map_cons, List.map_nil, List.cons.injEq, and_true, RH, Nat.reduceAdd, Nat.reduceEqDiff, reduceIte, envOf0, envOf1, envOf2, envOf3, envOf4, envOf5, c0, c1, K0_1, K0_2, K0_4, O0_0, O0_1, K1_2, K1_4, O1_0, O1_1] at hO
          obtain ⟨O2_0, O2_1⟩ := hO
          try simp only [RH] at hN
          repeat (first
            | refine R_seq ?_ | refine R_region ?_ | refine R_nil ?_ | refine Q_seq ?_ | refine Q_norm ?_ | refine Q_seqr ?_ | refine Q_seqx ?_ | refine Q_bl ?_ | refine Q_blr ?_ | refine Q_blx ?_ | refine Q_blo rfl ?_ | refine R_block ?_ | refine R_skip ?_ | refine R_exit ?_ | refine R_ret ?_ | refine I_true ?_ | refine I_false ?_ | refine N_exit ?_ | refine N_ret ?_
            | ((first | apply R_op | apply R_op0)
               · (first | (simp (maxDischargeDepth := 9) only [RA, Nat.reduceEqDiff, Nat.reduceLT, Nat.reduceLeDiff, Nat.reduceAdd, Nat.reduceSub, Nat.reduceMul, Nat.reduceDiv, Nat.reduceMod, Nat.reducePow, Nat.reduceBEq, Nat.reduceGT, reduceIte, j12, T1, T3, T5, T22, T38, T47, T94, T98, cv8_32 Try.underlying5 Try.underlying22, K0_1, K0_2, K0_4, O0_0, O0_1, K1_2, K1_4, O1_0, O1_1, K2_2, K2_4, K2_5, K2_11, O2_0, O2_1] <;> rfl) | ((repeat (first | (simp (maxDischargeDepth := 9) only [RA, Nat.reduceEqDiff, Nat.reduceLT, Nat.reduceLeDiff, Nat.reduceAdd, Nat.reduceSub, Nat.reduceMul, Nat.reduceDiv, Nat.reduceMod, Nat.reducePow, Nat.reduceBEq, Nat.reduceGT, reduceIte, j12, T1, T3, T5, T22, T38, T47, T94, T98, cv8_32 Try.underlying5 Try.underlying22, K0_1, K0_2, K0_4, O0_0, O0_1, K1_2, K1_4, O1_0, O1_1, K2_2, K2_4, K2_5, K2_11, O2_0, O2_1]; done) | simp (maxDischargeDepth := 9) only [RA, Nat.reduceEqDiff, Nat.reduceLT, Nat.reduceLeDiff, Nat.reduceAdd, Nat.reduceSub, Nat.reduceMul, Nat.reduceDiv, Nat.reduceMod, Nat.reducePow, Nat.reduceBEq, Nat.reduceGT, reduceIte, j12, T1, T3, T5, T22, T38, T47, T94, T98, cv8_32 Try.underlying5 Try.underlying22, K0_1, K0_2, K0_4, O0_0, O0_1, K1_2, K1_4, O1_0, O1_1, K2_2, K2_4, K2_5, K2_11, O2_0, O2_1] | simp (disch := first | assumption | omega) only [RV, j12, T1, T3, T5, T22, T38, T47, T94, T98, cv8_32 Try.underlying5 Try.underlying22, K0_1, K0_2, K0_4, O0_0, O0_1, K1_2, K1_4, O1_0, O1_1, K2_2, K2_4, K2_5, K2_11, O2_0, O2_1])) <;> rfl)))
            | (apply R_cond
               · (simp only [RE, Nat.reduceEqDiff, Nat.reduceLT, Nat.reduceLeDiff, Nat.reduceBEq, reduceIte, j12, T1, T3, T5, T22, T38, T47, T94, T98, cv8_32 Try.underlying5 Try.underlying22, K0_1, K0_2, K0_4, O0_0, O0_1, K1_2, K1_4, O1_0, O1_1, K2_2, K2_4, K2_5, K2_11, O2_0, O2_1] <;> rfl))
            | (apply R_grd
               · (simp only [yieldedA, RY, Nat.reduceEqDiff, reduceIte, j12, T1, T3, T5, T22, T38, T47, T94, T98, cv8_32 Try.underlying5 Try.underlying22, K0_1, K0_2, K0_4, O0_0, O0_1, K1_2, K1_4, O1_0, O1_1, K2_2, K2_4, K2_5, K2_11, O2_0, O2_1] <;> rfl)))
          refine W_loopK [2, 4, 11] [h.nx, h.nx + 1] (fun i e4 h4 => e4 23 = iv i ∧ h4.obj h2.nx = some (.row .rw 1 (b32 (addL (rnds b s 64).l s.l i))) ∧ Fr h2.nx h2 h4) 8 (by decide) ?_ ?_ ?_
          · refine ⟨by (try simp only [List.map_cons, List.map_nil, RH, Nat.reduceAdd, Nat.reduceEqDiff, reduceIte, ev_tmp, ev_const, lit_iv, lit_w8, lit_w32, lit_w64, envOf0, envOf1, envOf2, envOf3, envOf4, envOf5, T1, T3, T5, T22, T38, T47, T94, T98, cv8_32 Try.underlying5 Try.underlying22, K0_1, K0_2, K0_4, O0_0, O0_1, K1_2, K1_4, O1_0, O1_1, K2_2, K2_4, K2_5, K2_11, O2_0, O2_1]), ?_, F3⟩
            rw [addL_zero (St.l_length _)]; exact o3
          · intro i hi e4 h4 hK hO hN ⟨j23, o4, F4⟩
            simp only [List.map_cons, List.map_nil, List.cons.injEq, and_true, RH, Nat.reduceAdd, Nat.reduceEqDiff, reduceIte, envOf0, envOf1, envOf2, envOf3, envOf4, envOf5, K0_1, K0_2, K0_4, O0_0, O0_1, K1_2, K1_4, O1_0, O1_1, K2_2, K2_4, K2_5, K2_11, O2_0, O2_1] at hK
            obtain ⟨K3_2, K3_4, K3_11⟩ := hK
            simp only [List.map_cons, List.map_nil, List.cons.injEq, and_true, RH, Nat.reduceAdd, Nat.reduceEqDiff, reduceIte, envOf0, envOf1, envOf2, envOf3, envOf4, envOf5, K0_1, K0_2, K0_4, O0_0, O0_1, K1_2, K1_4, O1_0, O1_1, K2_2, K2_4, K2_5, K2_11, O2_0, O2_1] at hO
            obtain ⟨O3_0, O3_1⟩ := hO
            try simp only [RH] at hN
            have hal := addL_length (rnds b s 64).l s.l i
            have hg := addL_get (rnds b s 64).l s.l hi (Nat.le_refl i)
            repeat (first
              | refine R_seq ?_ | refine R_region ?_ | refine R_nil ?_ | refine Q_seq ?_ | refine Q_norm ?_ | refine Q_seqr ?_ | refine Q_seqx ?_ | refine Q_bl ?_ | refine Q_blr ?_ | refine Q_blx ?_ | refine Q_blo rfl ?_ | refine R_block ?_ | refine R_skip ?_ | refine R_exit ?_ | refine R_ret ?_ | refine I_true ?_ | refine I_false ?_ | refine N_exit ?_ | refine N_ret ?_
              | (refine R_draw (by kernel_rfl) ?_)
              | ((first | apply R_op | apply R_op0)
                 · (first | (simp (maxDischargeDepth := 9) only [RA, Nat.reduceEqDiff, Nat.reduceLT, Nat.reduceLeDiff, Nat.reduceAdd, Nat.reduceSub, Nat.reduceMul, Nat.reduceDiv, Nat.reduceMod, Nat.reducePow, Nat.reduceBEq, Nat.reduceGT, reduceIte, j23, o4, hi, hal, hls, hg, T1, T3, T5, T22, T38, T47, T94, T98, cv8_32 Try.underlying5 Try.underlying22, K0_1, K0_2, K0_4, O0_0, O0_1, K1_2, K1_4, O1_0, O1_1, K2_2, K2_4, K2_5, K2_11, O2_0, O2_1, K3_2, K3_4, K3_11, O3_0, O3_1] <;> rfl) | ((repeat (first | (simp (maxDischargeDepth := 9) only [RA, Nat.reduceEqDiff, Nat.reduceLT, Nat.reduceLeDiff, Nat.reduceAdd, Nat.reduceSub, Nat.reduceMul, Nat.reduceDiv, Nat.reduceMod, Nat.reducePow, Nat.reduceBEq, Nat.reduceGT, reduceIte, j23, o4, hi, hal, hls, hg, T1, T3, T5, T22, T38, T47, T94, T98, cv8_32 Try.underlying5 Try.underlying22, K0_1, K0_2, K0_4, O0_0, O0_1, K1_2, K1_4, O1_0, O1_1, K2_2, K2_4, K2_5, K2_11, O2_0, O2_1, K3_2, K3_4, K3_11, O3_0, O3_1]; done) | simp (maxDischargeDepth := 9) only [RA, Nat.reduceEqDiff, Nat.reduceLT, Nat.reduceLeDiff, Nat.reduceAdd, Nat.reduceSub, Nat.reduceMul, Nat.reduceDiv, Nat.reduceMod, Nat.reducePow, Nat.reduceBEq, Nat.reduceGT, reduceIte, j23, o4, hi, hal, hls, hg, T1, T3, T5, T22, T38, T47, T94, T98, cv8_32 Try.underlying5 Try.underlying22, K0_1, K0_2, K0_4, O0_0, O0_1, K1_2, K1_4, O1_0, O1_1, K2_2, K2_4, K2_5, K2_11, O2_0, O2_1, K3_2, K3_4, K3_11, O3_0, O3_1] | simp (disch := first | assumption | omega) only [RV, j23, o4, hi, hal, hls, hg, T1, T3, T5, T22, T38, T47, T94, T98, cv8_32 Try.underlying5 Try.underlying22, K0_1, K0_2, K0_4, O0_0, O0_1, K1_2, K1_4, O1_0, O1_1, K2_2, K2_4, K2_5, K2_11, O2_0, O2_1, K3_2, K3_4, K3_11, O3_0, O3_1])) <;> rfl)))
              | (apply R_cond
                 · (simp only [RE, Nat.reduceEqDiff, Nat.reduceLT, Nat.reduceLeDiff, Nat.reduceBEq, reduceIte, j23, o4, hi, hal, hls, hg, T1, T3, T5, T22, T38, T47, T94, T98, cv8_32 Try.underlying5 Try.underlying22, K0_1, K0_2, K0_4, O0_0, O0_1, K1_2, K1_4, O1_0, O1_1, K2_2, K2_4, K2_5, K2_11, O2_0, O2_1, K3_2, K3_4, K3_11, O3_0, O3_1] <;> rfl))
              | (apply R_grd
                 · (simp only [yieldedA, RY, Nat.reduceEqDiff, reduceIte, j23, o4, hi, hal, hls, hg, T1, T3, T5, T22, T38, T47, T94, T98, cv8_32 Try.underlying5 Try.underlying22, K0_1, K0_2, K0_4, O0_0, O0_1, K1_2, K1_4, O1_0, O1_1, K2_2, K2_4, K2_5, K2_11, O2_0, O2_1, K3_2, K3_4, K3_11, O3_0, O3_1] <;> rfl)))
            refine ⟨rfl, by first | rfl | simp only [List.map_cons, List.map_nil, RH, Nat.reduceAdd, Nat.reduceEqDiff, reduceIte, c0, c1, T1, T3, T5, T22, T38, T47, T94, T98, cv8_32 Try.underlying5 Try.underlying22, K0_1, K0_2, K0_4, O0_0, O0_1, K1_2, K1_4, O1_0, O1_1, K2_2, K2_4, K2_5, K2_11, O2_0, O2_1, K3_2, K3_4, K3_11, O3_0, O3_1], by first | rfl | simp only [List.map_cons, List.map_nil, RH, Nat.reduceAdd, Nat.reduceEqDiff, reduceIte, c0, c1, T1, T3, T5, T22, T38, T47, T94, T98, cv8_32 Try.underlying5 Try.underlying22, K0_1, K0_2, K0_4, O0_0, O0_1, K1_2, K1_4, O1_0, O1_1, K2_2, K2_4, K2_5, K2_11, O2_0, O2_1, K3_2, K3_4, K3_11, O3_0, O3_1], by first | (simp only [RH, c0, c1, T1, T3, T5, T22, T38, T47, T94, T98, cv8_32 Try.underlying5 Try.underlying22, K0_1, K0_2, K0_4, O0_0, O0_1, K1_2, K1_4, O1_0, O1_1, K2_2, K2_4, K2_5, K2_11, O2_0, O2_1, K3_2, K3_4, K3_11, O3_0, O3_1]; done) | ((try simp only [RH, c0, c1, T1, T3, T5, T22, T38, T47, T94, T98, cv8_32 Try.underlying5 Try.underlying22, K0_1, K0_2, K0_4, O0_0, O0_1, K1_2, K1_4, O1_0, O1_1, K2_2, K2_4, K2_5, K2_11, O2_0, O2_1, K3_2, K3_4, K3_11, O3_0, O3_1]); omega), ?_⟩
            refine ⟨by (try simp only [List.map_cons, List.map_nil, RH, Nat.reduceAdd, Nat.reduceEqDiff, reduceIte, ev_tmp, ev_const, lit_iv, lit_w8, lit_w32, lit_w64, envOf0, envOf1, envOf2, envOf3, envOf4, envOf5, T1, T3, T5, T22, T38, T47, T94, T98, cv8_32 Try.underlying5 Try.underlying22, K0_1, K0_2, K0_4, O0_0, O0_1, K1_2, K1_4, O1_0, O1_1, K2_2, K2_4, K2_5, K2_11, O2_0, O2_1, K3_2, K3_4, K3_11, O3_0, O3_1]), ?_, by (repeat (first | assumption | exact Fr.refl _ _ | refine Fr.new ?_ ?_ _ _ _ | refine Fr.put ?_ ?_ _ | omega | (simp only [RH]; omega)))⟩
            (try simp only [List.map_cons, List.map_nil, RH, Nat.reduceAdd, Nat.reduceEqDiff, reduceIte, ev_tmp, ev_const, lit_iv, lit_w8, lit_w32, lit_w64, envOf0, envOf1, envOf2, envOf3, envOf4, envOf5, T1, T3, T5, T22, T38, T47, T94, T98, cv8_32 Try.underlying5 Try.underlying22, K0_1, K0_2, K0_4, O0_0, O0_1, K1_2, K1_4, O1_0, O1_1, K2_2, K2_4, K2_5, K2_11, O2_0, O2_1, K3_2, K3_4, K3_11, O3_0, O3_1])
            rw [addL_set _ _ hi]
          · intro e4 h4 hK hO hN ⟨j23, o4, F4⟩
            simp only [List.map_cons, List.map_nil, List.cons.injEq, and_true, RH, Nat.reduceAdd, Nat.reduceEqDiff, reduceIte, envOf0, envOf1, envOf2, envOf3, envOf4, envOf5, K0_1, K0_2, K0_4, O0_0, O0_1, K1_2, K1_4, O1_0, O1_1, K2_2, K2_4, K2_5, K2_11, O2_0, O2_1] at hK
            obtain ⟨K3_2, K3_4, K3_11⟩ := hK
            simp only [List.map_cons, List.map_nil, List.cons.injEq, and_true, RH, Nat.reduceAdd, Nat.reduceEqDiff, reduceIte, envOf0, envOf1, envOf2, envOf3, envOf4, envOf5, K0_1, K0_2, K0_4, O0_0, O0_1, K1_2, K1_4, O1_0, O1_1, K2_2, K2_4, K2_5, K2_11, O2_0, O2_1] at hO
            obtain ⟨O3_0, O3_1⟩ := hO
            try simp only [RH] at hN
            rw [addL_full] at o4
            have hadd := St.l_length (s.add (rnds b s 64))
            have hpa := fun (H : Heap) (p : Nat) => puts32 (h := H) (b := p) (es := 1) hadd (List.length_replicate (n := 8) (a := 0#32))
            have hca := fun (kd : Kind) (es : Nat) => cut32 (k := kd) (es := es) hadd
            repeat (first
              | refine R_seq ?_ | refine R_region ?_ | refine R_nil ?_ | refine Q_seq ?_ | refine Q_norm ?_ | refine Q_seqr ?_ | refine Q_seqx ?_ | refine Q_bl ?_ | refine Q_blr ?_ | refine Q_blx ?_ | refine Q_blo rfl ?_ | refine R_block ?_ | refine R_skip ?_ | refine R_exit ?_ | refine R_ret ?_ | refine I_true ?_ | refine I_false ?_ | refine N_exit ?_ | refine N_ret ?_
              | ((first | apply R_op | apply R_op0)
                 · (first | (simp (maxDischargeDepth := 9) only [RA, Nat.reduceEqDiff, Nat.reduceLT, Nat.reduceLeDiff, Nat.reduceAdd, Nat.reduceSub, Nat.reduceMul, Nat.reduceDiv, Nat.reduceMod, Nat.reducePow, Nat.reduceBEq, Nat.reduceGT, reduceIte, j23, o4, hca, hpa, rep32, T1, T3, T5, T22, T38, T47, T94, T98, cv8_32 Try.underlying5 Try.underlying22, K0_1, K0_2, K0_4, O0_0, O0_1, K1_2, K1_4, O1_0, O1_1, K2_2, K2_4, K2_5, K2_11, O2_0, O2_1, K3_2, K3_4, K3_11, O3_0, O3_1] <;> rfl) | ((repeat (first | (simp (maxDischargeDepth := 9) only [RA, Nat.reduceEqDiff, Nat.reduceLT, Nat.reduceLeDiff, Nat.reduceAdd, Nat.reduceSub, Nat.reduceMul, Nat.reduceDiv, Nat.reduceMod, Nat.reducePow, Nat.reduceBEq, Nat.reduceGT, reduceIte, j23, o4, hca, hpa, rep32, T1, T3, T5, T22, T38, T47, T94, T98, cv8_32 Try.underlying5 Try.underlying22, K0_1, K0_2, K0_4, O0_0, O0_1, K1_2, K1_4, O1_0, O1_1, K2_2, K2_4, K2_5, K2_11, O2_0, O2_1, K3_2, K3_4, K3_11, O3_0, O3_1]; done) | simp (maxDischargeDepth := 9) only [RA, Nat.reduceEqDiff, Nat.reduceLT, Nat.reduceLeDiff, Nat.reduceAdd, Nat.reduceSub, Nat.reduceMul, Nat.reduceDiv, Nat.reduceMod, Nat.reducePow, Nat.reduceBEq, Nat.reduceGT, reduceIte, j23, o4, hca, hpa, rep32, T1, T3, T5, T22, T38, T47, T94, T98, cv8_32 Try.underlying5 Try.underlying22, K0_1, K0_2, K0_4, O0_0, O0_1, K1_2, K1_4, O1_0, O1_1, K2_2, K2_4, K2_5, K2_11, O2_0, O2_1, K3_2, K3_4, K3_11, O3_0, O3_1] | simp (disch := first | assumption | omega) only [RV, j23, o4, hca, hpa, rep32, T1, T3, T5, T22, T38, T47, T94, T98, cv8_32 Try.underlying5 Try.underlying22, K0_1, K0_2, K0_4, O0_0, O0_1, K1_2, K1_4, O1_0, O1_1, K2_2, K2_4, K2_5, K2_11, O2_0, O2_1, K3_2, K3_4, K3_11, O3_0, O3_1])) <;> rfl)))
              | (apply R_cond
                 · (simp only [RE, Nat.reduceEqDiff, Nat.reduceLT, Nat.reduceLeDiff, Nat.reduceBEq, reduceIte, j23, o4, hca, hpa, rep32, T1, T3, T5, T22, T38, T47, T94, T98, cv8_32 Try.underlying5 Try.underlying22, K0_1, K0_2, K0_4, O0_0, O0_1, K1_2, K1_4, O1_0, O1_1, K2_2, K2_4, K2_5, K2_11, O2_0, O2_1, K3_2, K3_4, K3_11, O3_0, O3_1] <;> rfl))
              | (apply R_grd
                 · (simp only [yieldedA, RY, Nat.reduceEqDiff, reduceIte, j23, o4, hca, hpa, rep32, T1, T3, T5, T22, T38, T47, T94, T98, cv8_32 Try.underlying5 Try.underlying22, K0_1, K0_2, K0_4, O0_0, O0_1, K1_2, K1_4, O1_0, O1_1, K2_2, K2_4, K2_5, K2_11, O2_0, O2_1, K3_2, K3_4, K3_11, O3_0, O3_1] <;> rfl)))
            first | refine ⟨.inr rfl, ?_⟩ | refine ⟨.inl rfl, ?_⟩
            simp only [evResultList, evResult, K3_4, ld47, RH, upd_apply, Nat.reduceEqDiff, reduceIte, hca, Option.map_some]
            refine ⟨_, rfl, ?_, (F2.trans (F4.le F2.1)).put (by omega) _⟩
            unfold shaStep
            rw [if_pos h64]
            rfl
  · repeat (first
    | refine R_seq ?_ | refine R_region ?_ | refine R_nil ?_ | refine Q_seq ?_ | refine Q_norm ?_ | refine Q_seqr ?_ | refine Q_seqx ?_ | refine Q_bl ?_ | refine Q_blr ?_ | refine Q_blx ?_ | refine Q_blo rfl ?_ | refine R_block ?_ | refine R_skip ?_ | refine R_exit ?_ | refine R_ret ?_ | refine I_true ?_ | refine I_false ?_ | refine N_exit ?_ | refine N_ret ?_
    | (refine R_draw (by kernel_rfl) ?_)
    | ((first | apply R_op | apply R_op0)
       · (first | (simp (maxDischargeDepth := 9) only [RA, Nat.reduceEqDiff, Nat.reduceLT, Nat.reduceLeDiff, Nat.reduceAdd, Nat.reduceSub, Nat.reduceMul, Nat.reduceDiv, Nat.reduceMod, Nat.reducePow, Nat.reduceBEq, Nat.reduceGT, reduceIte, S38len hb, h64, rep32, hls, hcs, hps, T1, T3, T5, T22, T38, T47, T94, T98, cv8_32 Try.underlying5 Try.underlying22] <;> rfl) | ((repeat (first | (simp (maxDischargeDepth := 9) only [RA, Nat.reduceEqDiff, Nat.reduceLT, Nat.reduceLeDiff, Nat.reduceAdd, Nat.reduceSub, Nat.reduceMul, Nat.reduceDiv, Nat.reduceMod, Nat.reducePow, Nat.reduceBEq, Nat.reduceGT, reduceIte, S38len hb, h64, rep32, hls, hcs, hps, T1, T3, T5, T22, T38, T47, T94, T98, cv8_32 Try.underlying5 Try.underlying22]; done) | simp (maxDischargeDepth := 9) only [RA, Nat.reduceEqDiff, Nat.reduceLT, Nat.reduceLeDiff, Nat.reduceAdd, Nat.reduceSub, Nat.reduceMul, Nat.reduceDiv, Nat.reduceMod, Nat.reducePow, Nat.reduceBEq, Nat.reduceGT, reduceIte, S38len hb, h64, rep32, hls, hcs, hps, T1, T3, T5, T22, T38, T47, T94, T98, cv8_32 Try.underlying5 Try.underlying22] | simp (disch := first | assumption | omega) only [RV, S38len hb, h64, rep32, hls, hcs, hps, T1, T3, T5, T22, T38, T47, T94, T98, cv8_32 Try.underlying5 Try.underlying22])) <;> rfl)))
    | (apply R_cond
       · (simp only [RE, Nat.reduceEqDiff, Nat.reduceLT, Nat.reduceLeDiff, Nat.reduceBEq, reduceIte, S38len hb, h64, rep32, hls, hcs, hps, T1, T3, T5, T22, T38, T47, T94, T98, cv8_32 Try.underlying5 Try.underlying22] <;> rfl))
    | (apply R_grd
       · (simp only [yieldedA, RY, Nat.reduceEqDiff, reduceIte, S38len hb, h64, rep32, hls, hcs, hps, T1, T3, T5, T22, T38, T47, T94, T98, cv8_32 Try.underlying5 Try.underlying22] <;> rfl)))
    first | refine ⟨.inr rfl, ?_⟩ | refine ⟨.inl rfl, ?_⟩
    simp only [evResultList, evResult, ld47, RH, upd_apply, Nat.reduceEqDiff, reduceIte, hcs, Option.map_some]
    refine ⟨_, rfl, ?_, by (repeat (first | assumption | exact Fr.refl _ _ | refine Fr.new ?_ ?_ _ _ _ | refine Fr.put ?_ ?_ _ | omega | (simp only [RH]; omega)))⟩
    unfold shaStep
    rw [if_neg h64]
    rfl
end Go.Proofs.Ytfehhihllenjiaa
