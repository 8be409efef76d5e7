/- The stream's functions: the program's block. -/
import Derived.Test.YtfehhihllenjiaaFc
set_option linter.all false
namespace Go.Proofs.Ytfehhihllenjiaa
open Go.Proofs
attribute [local irreducible] evOps iter evD evF evC evLoad evStore evAlloc evIndexAddr evIndex evLenB evBox evBin evUn evConvert evExtract evSlice evAppend evCopy evNil evBuild Program.underlying

theorem whA : ∀ k, k < 4 → whs.getD k (0, 0, 0, 0) = (k, 4 + k, 8 + k, 12 + k)
  | 0, _ | 1, _ | 2, _ | 3, _ => rfl
  | n + 4, h => by omega
theorem whB : ∀ k, k < 4 → whs.getD (4 + k) (0, 0, 0, 0) = (k, 4 + (k + 1) % 4, 8 + (k + 2) % 4, 12 + (k + 3) % 4)
  | 0, _ | 1, _ | 2, _ | 3, _ => rfl
  | n + 4, h => by omega
theorem roundA (i k : Nat) (hk : k < 4) (x : List (BitVec 32)) : rounds (8 * i + (k + 1)) x = qr (rounds (8 * i + k) x) k (4 + k) (8 + k) (12 + k) := by
  rw [← Nat.add_assoc, rounds_succ, stepq, show (8 * i + k) % 8 = k by omega, whA k hk]
theorem roundB (i k : Nat) (hk : k < 4) (x : List (BitVec 32)) : rounds (8 * i + 4 + (k + 1)) x = qr (rounds (8 * i + 4 + k) x) k (4 + (k + 1) % 4) (8 + (k + 2) % 4) (12 + (k + 3) % 4) := by
  rw [← Nat.add_assoc, rounds_succ, stepq, show (8 * i + 4 + k) % 8 = 4 + k by omega, whB k hk]

theorem outAt_eq (x s : List (BitVec 32)) (a j : Nat) (hj : j < 4) : outAt x s (4 * a + j) = ((x.getD a 0#32 + s.getD a 0#32) >>> (8 * j)).setWidth 8 := by
  unfold outAt
  rw [show (4 * a + j) / 4 = a by omega, show (4 * a + j) % 4 = j by omega]
theorem first_length (k n : List (BitVec 8)) (c : BitVec 32) : (first k n c).length = 16 := rfl
attribute [local irreducible] first rounds block outBytes

theorem inl45 : inlOf Try.prog 45 = true := by kernel_rfl
theorem iso45 : isoOf Try.prog 45 = true := by kernel_rfl
set_option maxRecDepth 20000 in
set_option maxHeartbeats 8000000 in
theorem block45 (n : Nat) (k n' : List (BitVec 8)) (hk : k.length = 32) (hn : n'.length = 12) (c : BitVec 32) (h : Heap) : fcall Try.prog (n + 6) (.func (.func 45) #[] #[]) [.agg ⟨b8 k⟩, .agg ⟨b8 n'⟩, w32 c] h = some (.ok (.agg ⟨b8 (block k n' c)⟩), h) := by
  rw [fcall_iso inl45 iso45]
  have : ∃ v h1, evF (cfg0 Try.prog) (n + 5 + 1) 45 [.agg ⟨b8 k⟩, .agg ⟨b8 n'⟩, w32 c] ⟨fun _ => none, 0⟩ = some (.ok v, h1) ∧ v = (.agg ⟨b8 (block k n' c)⟩) := by
    rw [evF_eq Try.func45 rfl]
    apply evEnd_of_W
    simp only [Try.f45]
    repeat (first
      | refine R_seq ?_ | refine R_region ?_ | refine R_nil ?_ | refine Q_seq ?_ | refine Q_norm ?_ | refine Q_seqr ?_ | refine Q_seqx ?_ | refine Q_bl ?_ | refine Q_blr ?_ | refine Q_blx ?_ | refine Q_blo rfl ?_ | refine R_block ?_ | refine R_skip ?_ | refine R_exit ?_ | refine R_ret ?_ | refine I_true ?_ | refine I_false ?_ | refine N_exit ?_ | refine N_ret ?_
      | (refine R_draw (by kernel_rfl) ?_)
      | ((first | apply R_op | apply R_op0)
         · (first | (simp (maxDischargeDepth := 9) only [RA, Nat.reduceEqDiff, Nat.reduceLT, Nat.reduceLeDiff, Nat.reduceAdd, Nat.reduceSub, Nat.reduceMul, Nat.reduceDiv, Nat.reduceMod, Nat.reducePow, Nat.reduceBEq, Nat.reduceGT, reduceIte, T30, T32, T33, T84, T22, hk, hn, first89 _ _ _ hk hn _, first_length, puts32 (first_length k n' c) List.length_replicate, cut32 (first_length k n' c), T3, T5, cv32_8 Try.underlying22 Try.underlying5] <;> rfl) | ((repeat (first | (simp (maxDischargeDepth := 9) only [RA, Nat.reduceEqDiff, Nat.reduceLT, Nat.reduceLeDiff, Nat.reduceAdd, Nat.reduceSub, Nat.reduceMul, Nat.reduceDiv, Nat.reduceMod, Nat.reducePow, Nat.reduceBEq, Nat.reduceGT, reduceIte, T30, T32, T33, T84, T22, hk, hn, first89 _ _ _ hk hn _, first_length, puts32 (first_length k n' c) List.length_replicate, cut32 (first_length k n' c), T3, T5, cv32_8 Try.underlying22 Try.underlying5]; done) | simp (maxDischargeDepth := 9) only [RA, Nat.reduceEqDiff, Nat.reduceLT, Nat.reduceLeDiff, Nat.reduceAdd, Nat.reduceSub, Nat.reduceMul, Nat.reduceDiv, Nat.reduceMod, Nat.reducePow, Nat.reduceBEq, Nat.reduceGT, reduceIte, T30, T32, T33, T84, T22, hk, hn, first89 _ _ _ hk hn _, first_length, puts32 (first_length k n' c) List.length_replicate, cut32 (first_length k n' c), T3, T5, cv32_8 Try.underlying22 Try.underlying5] | simp (disch := first | assumption | omega) only [RV, T30, T32, T33, T84, T22, hk, hn, first89 _ _ _ hk hn _, first_length, puts32 (first_length k n' c) List.length_replicate, cut32 (first_length k n' c), T3, T5, cv32_8 Try.underlying22 Try.underlying5])) <;> rfl)))
      | (apply R_cond
         · (simp only [RE, Nat.reduceEqDiff, Nat.reduceLT, Nat.reduceLeDiff, Nat.reduceBEq, reduceIte] <;> rfl))
      | (apply R_grd
         · (simp only [yieldedA, RY, Nat.reduceEqDiff, reduceIte] <;> rfl)))
    have hs := first_length k n' c
    refine W_loop (fun i e h => e 20 = iv i ∧ e 6 = .pointer (some ⟨2, 0, none⟩) ∧ e 7 = .pointer (some ⟨3, 0, none⟩) ∧ e 8 = .pointer (some ⟨4, 0, none⟩) ∧ h.obj 2 = some (.row .rw 1 (b8 (List.replicate 64 0#8))) ∧ h.obj 3 = some (.row .rw 1 (b32 (first k n' c))) ∧ h.obj 4 = some (.row .rw 1 (b32 (rounds (8 * i) (first k n' c)))) ∧ h.nx = 5) 10 (by decide) ?_ ?_ ?_
    · refine ⟨?_, ?_, ?_, ?_, ?_, ?_, ?_, ?_⟩ <;> (try simp only [List.map_cons, List.map_nil, RH, Nat.reduceAdd, Nat.reduceEqDiff, reduceIte, ev_tmp, ev_const, lit_iv, lit_w8, lit_w32, lit_w64, envOf0, envOf1, envOf2, envOf3, envOf4, envOf5, hs, rep8, T3, T5, T22, T30, T32, T33, T84, cv32_8 Try.underlying22 Try.underlying5])
      rw [Nat.mul_zero, rounds_zero]
    · intro i hi e h ⟨k20, k6, k7, k8, o2, o3, o4, hnx⟩
      repeat (first
        | refine R_seq ?_ | refine R_region ?_ | refine R_nil ?_ | refine Q_seq ?_ | refine Q_norm ?_ | refine Q_seqr ?_ | refine Q_seqx ?_ | refine Q_bl ?_ | refine Q_blr ?_ | refine Q_blx ?_ | refine Q_blo rfl ?_ | refine R_block ?_ | refine R_skip ?_ | refine R_exit ?_ | refine R_ret ?_ | refine I_true ?_ | refine I_false ?_ | refine N_exit ?_ | refine N_ret ?_
        | ((first | apply R_op | apply R_op0)
           · (first | (simp (maxDischargeDepth := 9) only [RA, Nat.reduceEqDiff, Nat.reduceLT, Nat.reduceLeDiff, Nat.reduceAdd, Nat.reduceSub, Nat.reduceMul, Nat.reduceDiv, Nat.reduceMod, Nat.reducePow, Nat.reduceBEq, Nat.reduceGT, reduceIte, k20, hi, T3, T5, T22, T30, T32, T33, T84, cv32_8 Try.underlying22 Try.underlying5] <;> rfl) | ((repeat (first | (simp (maxDischargeDepth := 9) only [RA, Nat.reduceEqDiff, Nat.reduceLT, Nat.reduceLeDiff, Nat.reduceAdd, Nat.reduceSub, Nat.reduceMul, Nat.reduceDiv, Nat.reduceMod, Nat.reducePow, Nat.reduceBEq, Nat.reduceGT, reduceIte, k20, hi, T3, T5, T22, T30, T32, T33, T84, cv32_8 Try.underlying22 Try.underlying5]; done) | simp (maxDischargeDepth := 9) only [RA, Nat.reduceEqDiff, Nat.reduceLT, Nat.reduceLeDiff, Nat.reduceAdd, Nat.reduceSub, Nat.reduceMul, Nat.reduceDiv, Nat.reduceMod, Nat.reducePow, Nat.reduceBEq, Nat.reduceGT, reduceIte, k20, hi, T3, T5, T22, T30, T32, T33, T84, cv32_8 Try.underlying22 Try.underlying5] | simp (disch := first | assumption | omega) only [RV, k20, hi, T3, T5, T22, T30, T32, T33, T84, cv32_8 Try.underlying22 Try.underlying5])) <;> rfl)))
        | (apply R_cond
           · (simp only [RE, Nat.reduceEqDiff, Nat.reduceLT, Nat.reduceLeDiff, Nat.reduceBEq, reduceIte] <;> rfl))
        | (apply R_grd
           · (simp only [yieldedA, RY, Nat.reduceEqDiff, reduceIte] <;> rfl)))
      refine W_loop (fun k2 e h => e 22 = iv k2 ∧ e 20 = iv i ∧ e 6 = .pointer (some ⟨2, 0, none⟩) ∧ e 7 = .pointer (some ⟨3, 0, none⟩) ∧ e 8 = .pointer (some ⟨4, 0, none⟩) ∧ h.obj 2 = some (.row .rw 1 (b8 (List.replicate 64 0#8))) ∧ h.obj 3 = some (.row .rw 1 (b32 (first k n' c))) ∧ h.obj 4 = some (.row .rw 1 (b32 (rounds (8 * i + k2) (first k n' c)))) ∧ h.nx = 5) 4 (by decide) ?_ ?_ ?_
      · refine ⟨?_, ?_, ?_, ?_, ?_, ?_, ?_, ?_, ?_⟩ <;> (try simp only [List.map_cons, List.map_nil, RH, Nat.reduceAdd, Nat.reduceEqDiff, reduceIte, ev_tmp, ev_const, lit_iv, lit_w8, lit_w32, lit_w64, envOf0, envOf1, envOf2, envOf3, envOf4, envOf5, k20, k6, k7, k8, o2, o3, o4, hnx, Nat.add_zero, T3, T5, T22, T30, T32, T33, T84, cv32_8 Try.underlying22 Try.underlying5])
      · intro k2 hk2 e h ⟨j22, k20, k6, k7, k8, o2, o3, o4, hnx⟩
        have hx : (rounds (8 * i + k2) (first k n' c)).length = 16 := by rw [rounds_length, first_length]
        repeat (first
          | refine R_seq ?_ | refine R_region ?_ | refine R_nil ?_ | refine Q_seq ?_ | refine Q_norm ?_ | refine Q_seqr ?_ | refine Q_seqx ?_ | refine Q_bl ?_ | refine Q_blr ?_ | refine Q_blx ?_ | refine Q_blo rfl ?_ | refine R_block ?_ | refine R_skip ?_ | refine R_exit ?_ | refine R_ret ?_ | refine I_true ?_ | refine I_false ?_ | refine N_exit ?_ | refine N_ret ?_
          | ((first | apply R_op | apply R_op0)
             · (first | (simp (maxDischargeDepth := 9) only [RA, Nat.reduceEqDiff, Nat.reduceLT, Nat.reduceLeDiff, Nat.reduceAdd, Nat.reduceSub, Nat.reduceMul, Nat.reduceDiv, Nat.reduceMod, Nat.reducePow, Nat.reduceBEq, Nat.reduceGT, reduceIte, j22, k20, k8, hk2, T3, T5, T22, T30, T32, T33, T84, cv32_8 Try.underlying22 Try.underlying5] <;> rfl) | ((repeat (first | (simp (maxDischargeDepth := 9) only [RA, Nat.reduceEqDiff, Nat.reduceLT, Nat.reduceLeDiff, Nat.reduceAdd, Nat.reduceSub, Nat.reduceMul, Nat.reduceDiv, Nat.reduceMod, Nat.reducePow, Nat.reduceBEq, Nat.reduceGT, reduceIte, j22, k20, k8, hk2, T3, T5, T22, T30, T32, T33, T84, cv32_8 Try.underlying22 Try.underlying5]; done) | simp (maxDischargeDepth := 9) only [RA, Nat.reduceEqDiff, Nat.reduceLT, Nat.reduceLeDiff, Nat.reduceAdd, Nat.reduceSub, Nat.reduceMul, Nat.reduceDiv, Nat.reduceMod, Nat.reducePow, Nat.reduceBEq, Nat.reduceGT, reduceIte, j22, k20, k8, hk2, T3, T5, T22, T30, T32, T33, T84, cv32_8 Try.underlying22 Try.underlying5] | simp (disch := first | assumption | omega) only [RV, j22, k20, k8, hk2, T3, T5, T22, T30, T32, T33, T84, cv32_8 Try.underlying22 Try.underlying5])) <;> rfl)))
          | (apply R_cond
             · (simp only [RE, Nat.reduceEqDiff, Nat.reduceLT, Nat.reduceLeDiff, Nat.reduceBEq, reduceIte] <;> rfl))
          | (apply R_grd
             · (simp only [yieldedA, RY, Nat.reduceEqDiff, reduceIte] <;> rfl)))
        refine R_call (p := fun v h' => h'.obj 4 = some (.row .rw 1 (b32 (rounds (8 * i + (k2 + 1)) (first k n' c)))) ∧ (∀ q, q ≠ 4 → h'.obj q = h.obj q) ∧ h'.nx = h.nx) ?_ ?_
        · simp only [op_call, ev_tmp, ev_func, List.map_cons, List.map_nil, upd_apply, Nat.reduceEqDiff, if_true, if_false, reduceIte, k8]
          rw [roundA i k2 hk2]
          exact quarter90 (n + 1) _ hx 4 _ _ _ _ (by omega) (by omega) (by omega) (by omega) h o4
        · intro v h1 ⟨p4, pq, pn⟩
          have p2 := pq 2 (by decide)
          have p3 := pq 3 (by decide)
          repeat (first
            | refine R_seq ?_ | refine R_region ?_ | refine R_nil ?_ | refine Q_seq ?_ | refine Q_norm ?_ | refine Q_seqr ?_ | refine Q_seqx ?_ | refine Q_bl ?_ | refine Q_blr ?_ | refine Q_blx ?_ | refine Q_blo rfl ?_ | refine R_block ?_ | refine R_skip ?_ | refine R_exit ?_ | refine R_ret ?_ | refine I_true ?_ | refine I_false ?_ | refine N_exit ?_ | refine N_ret ?_
            | ((first | apply R_op | apply R_op0)
               · (first | (simp (maxDischargeDepth := 9) only [RA, Nat.reduceEqDiff, Nat.reduceLT, Nat.reduceLeDiff, Nat.reduceAdd, Nat.reduceSub, Nat.reduceMul, Nat.reduceDiv, Nat.reduceMod, Nat.reducePow, Nat.reduceBEq, Nat.reduceGT, reduceIte, j22, k20, k8, hk2, T3, T5, T22, T30, T32, T33, T84, cv32_8 Try.underlying22 Try.underlying5] <;> rfl) | ((repeat (first | (simp (maxDischargeDepth := 9) only [RA, Nat.reduceEqDiff, Nat.reduceLT, Nat.reduceLeDiff, Nat.reduceAdd, Nat.reduceSub, Nat.reduceMul, Nat.reduceDiv, Nat.reduceMod, Nat.reducePow, Nat.reduceBEq, Nat.reduceGT, reduceIte, j22, k20, k8, hk2, T3, T5, T22, T30, T32, T33, T84, cv32_8 Try.underlying22 Try.underlying5]; done) | simp (maxDischargeDepth := 9) only [RA, Nat.reduceEqDiff, Nat.reduceLT, Nat.reduceLeDiff, Nat.reduceAdd, Nat.reduceSub, Nat.reduceMul, Nat.reduceDiv, Nat.reduceMod, Nat.reducePow, Nat.reduceBEq, Nat.reduceGT, reduceIte, j22, k20, k8, hk2, T3, T5, T22, T30, T32, T33, T84, cv32_8 Try.underlying22 Try.underlying5] | simp (disch := first | assumption | omega) only [RV, j22, k20, k8, hk2, T3, T5, T22, T30, T32, T33, T84, cv32_8 Try.underlying22 Try.underlying5])) <;> rfl)))
            | (apply R_cond
               · (simp only [RE, Nat.reduceEqDiff, Nat.reduceLT, Nat.reduceLeDiff, Nat.reduceBEq, reduceIte] <;> rfl))
            | (apply R_grd
               · (simp only [yieldedA, RY, Nat.reduceEqDiff, reduceIte] <;> rfl)))
          refine ⟨rfl, ?_, ?_, ?_, ?_, ?_, ?_, ?_, ?_, ?_⟩ <;> (try simp only [List.map_cons, List.map_nil, RH, Nat.reduceAdd, Nat.reduceEqDiff, reduceIte, ev_tmp, ev_const, lit_iv, lit_w8, lit_w32, lit_w64, envOf0, envOf1, envOf2, envOf3, envOf4, envOf5, j22, k20, k6, k7, k8, p2, p3, p4, o2, o3, hnx, pn, T3, T5, T22, T30, T32, T33, T84, cv32_8 Try.underlying22 Try.underlying5])
      · intro e h ⟨j22, k20, k6, k7, k8, o2, o3, o4, hnx⟩
        repeat (first
          | refine R_seq ?_ | refine R_region ?_ | refine R_nil ?_ | refine Q_seq ?_ | refine Q_norm ?_ | refine Q_seqr ?_ | refine Q_seqx ?_ | refine Q_bl ?_ | refine Q_blr ?_ | refine Q_blx ?_ | refine Q_blo rfl ?_ | refine R_block ?_ | refine R_skip ?_ | refine R_exit ?_ | refine R_ret ?_ | refine I_true ?_ | refine I_false ?_ | refine N_exit ?_ | refine N_ret ?_
          | ((first | apply R_op | apply R_op0)
             · (first | (simp (maxDischargeDepth := 9) only [RA, Nat.reduceEqDiff, Nat.reduceLT, Nat.reduceLeDiff, Nat.reduceAdd, Nat.reduceSub, Nat.reduceMul, Nat.reduceDiv, Nat.reduceMod, Nat.reducePow, Nat.reduceBEq, Nat.reduceGT, reduceIte, j22, T3, T5, T22, T30, T32, T33, T84, cv32_8 Try.underlying22 Try.underlying5] <;> rfl) | ((repeat (first | (simp (maxDischargeDepth := 9) only [RA, Nat.reduceEqDiff, Nat.reduceLT, Nat.reduceLeDiff, Nat.reduceAdd, Nat.reduceSub, Nat.reduceMul, Nat.reduceDiv, Nat.reduceMod, Nat.reducePow, Nat.reduceBEq, Nat.reduceGT, reduceIte, j22, T3, T5, T22, T30, T32, T33, T84, cv32_8 Try.underlying22 Try.underlying5]; done) | simp (maxDischargeDepth := 9) only [RA, Nat.reduceEqDiff, Nat.reduceLT, Nat.reduceLeDiff, Nat.reduceAdd, Nat.reduceSub, Nat.reduceMul, Nat.reduceDiv, Nat.reduceMod, Nat.reducePow, Nat.reduceBEq, Nat.reduceGT, reduceIte, j22, T3, T5, T22, T30, T32, T33, T84, cv32_8 Try.underlying22 Try.underlying5] | simp (disch := first | assumption | omega) only [RV, j22, T3, T5, T22, T30, T32, T33, T84, cv32_8 Try.underlying22 Try.underlying5])) <;> rfl)))
          | (apply R_cond
             · (simp only [RE, Nat.reduceEqDiff, Nat.reduceLT, Nat.reduceLeDiff, Nat.reduceBEq, reduceIte] <;> rfl))
          | (apply R_grd
             · (simp only [yieldedA, RY, Nat.reduceEqDiff, reduceIte] <;> rfl)))
        repeat (first
          | refine R_seq ?_ | refine R_region ?_ | refine R_nil ?_ | refine Q_seq ?_ | refine Q_norm ?_ | refine Q_seqr ?_ | refine Q_seqx ?_ | refine Q_bl ?_ | refine Q_blr ?_ | refine Q_blx ?_ | refine Q_blo rfl ?_ | refine R_block ?_ | refine R_skip ?_ | refine R_exit ?_ | refine R_ret ?_ | refine I_true ?_ | refine I_false ?_ | refine N_exit ?_ | refine N_ret ?_
          | ((first | apply R_op | apply R_op0)
             · (first | (simp (maxDischargeDepth := 9) only [RA, Nat.reduceEqDiff, Nat.reduceLT, Nat.reduceLeDiff, Nat.reduceAdd, Nat.reduceSub, Nat.reduceMul, Nat.reduceDiv, Nat.reduceMod, Nat.reducePow, Nat.reduceBEq, Nat.reduceGT, reduceIte, j22, k20, hi, T3, T5, T22, T30, T32, T33, T84, cv32_8 Try.underlying22 Try.underlying5] <;> rfl) | ((repeat (first | (simp (maxDischargeDepth := 9) only [RA, Nat.reduceEqDiff, Nat.reduceLT, Nat.reduceLeDiff, Nat.reduceAdd, Nat.reduceSub, Nat.reduceMul, Nat.reduceDiv, Nat.reduceMod, Nat.reducePow, Nat.reduceBEq, Nat.reduceGT, reduceIte, j22, k20, hi, T3, T5, T22, T30, T32, T33, T84, cv32_8 Try.underlying22 Try.underlying5]; done) | simp (maxDischargeDepth := 9) only [RA, Nat.reduceEqDiff, Nat.reduceLT, Nat.reduceLeDiff, Nat.reduceAdd, Nat.reduceSub, Nat.reduceMul, Nat.reduceDiv, Nat.reduceMod, Nat.reducePow, Nat.reduceBEq, Nat.reduceGT, reduceIte, j22, k20, hi, T3, T5, T22, T30, T32, T33, T84, cv32_8 Try.underlying22 Try.underlying5] | simp (disch := first | assumption | omega) only [RV, j22, k20, hi, T3, T5, T22, T30, T32, T33, T84, cv32_8 Try.underlying22 Try.underlying5])) <;> rfl)))
          | (apply R_cond
             · (simp only [RE, Nat.reduceEqDiff, Nat.reduceLT, Nat.reduceLeDiff, Nat.reduceBEq, reduceIte] <;> rfl))
          | (apply R_grd
             · (simp only [yieldedA, RY, Nat.reduceEqDiff, reduceIte] <;> rfl)))
        refine W_loop (fun k2 e h => e 34 = iv k2 ∧ e 20 = iv i ∧ e 6 = .pointer (some ⟨2, 0, none⟩) ∧ e 7 = .pointer (some ⟨3, 0, none⟩) ∧ e 8 = .pointer (some ⟨4, 0, none⟩) ∧ h.obj 2 = some (.row .rw 1 (b8 (List.replicate 64 0#8))) ∧ h.obj 3 = some (.row .rw 1 (b32 (first k n' c))) ∧ h.obj 4 = some (.row .rw 1 (b32 (rounds (8 * i + 4 + k2) (first k n' c)))) ∧ h.nx = 5) 4 (by decide) ?_ ?_ ?_
        · refine ⟨?_, ?_, ?_, ?_, ?_, ?_, ?_, ?_, ?_⟩ <;> (try simp only [List.map_cons, List.map_nil, RH, Nat.reduceAdd, Nat.reduceEqDiff, reduceIte, ev_tmp, ev_const, lit_iv, lit_w8, lit_w32, lit_w64, envOf0, envOf1, envOf2, envOf3, envOf4, envOf5, k20, k6, k7, k8, o2, o3, o4, hnx, Nat.add_zero, T3, T5, T22, T30, T32, T33, T84, cv32_8 Try.underlying22 Try.underlying5])
        · intro k2 hk2 e h ⟨j22, k20, k6, k7, k8, o2, o3, o4, hnx⟩
          have hx : (rounds (8 * i + 4 + k2) (first k n' c)).length = 16 := by rw [rounds_length, first_length]
          repeat (first
            | refine R_seq ?_ | refine R_region ?_ | refine R_nil ?_ | refine Q_seq ?_ | refine Q_norm ?_ | refine Q_seqr ?_ | refine Q_seqx ?_ | refine Q_bl ?_ | refine Q_blr ?_ | refine Q_blx ?_ | refine Q_blo rfl ?_ | refine R_block ?_ | refine R_skip ?_ | refine R_exit ?_ | refine R_ret ?_ | refine I_true ?_ | refine I_false ?_ | refine N_exit ?_ | refine N_ret ?_
            | ((first | apply R_op | apply R_op0)
               · (first | (simp (maxDischargeDepth := 9) only [RA, Nat.reduceEqDiff, Nat.reduceLT, Nat.reduceLeDiff, Nat.reduceAdd, Nat.reduceSub, Nat.reduceMul, Nat.reduceDiv, Nat.reduceMod, Nat.reducePow, Nat.reduceBEq, Nat.reduceGT, reduceIte, j22, k20, k8, hk2, T3, T5, T22, T30, T32, T33, T84, cv32_8 Try.underlying22 Try.underlying5] <;> rfl) | ((repeat (first | (simp (maxDischargeDepth := 9) only [RA, Nat.reduceEqDiff, Nat.reduceLT, Nat.reduceLeDiff, Nat.reduceAdd, Nat.reduceSub, Nat.reduceMul, Nat.reduceDiv, Nat.reduceMod, Nat.reducePow, Nat.reduceBEq, Nat.reduceGT, reduceIte, j22, k20, k8, hk2, T3, T5, T22, T30, T32, T33, T84, cv32_8 Try.underlying22 Try.underlying5]; done) | simp (maxDischargeDepth := 9) only [RA, Nat.reduceEqDiff, Nat.reduceLT, Nat.reduceLeDiff, Nat.reduceAdd, Nat.reduceSub, Nat.reduceMul, Nat.reduceDiv, Nat.reduceMod, Nat.reducePow, Nat.reduceBEq, Nat.reduceGT, reduceIte, j22, k20, k8, hk2, T3, T5, T22, T30, T32, T33, T84, cv32_8 Try.underlying22 Try.underlying5] | simp (disch := first | assumption | omega) only [RV, j22, k20, k8, hk2, T3, T5, T22, T30, T32, T33, T84, cv32_8 Try.underlying22 Try.underlying5])) <;> rfl)))
            | (apply R_cond
               · (simp only [RE, Nat.reduceEqDiff, Nat.reduceLT, Nat.reduceLeDiff, Nat.reduceBEq, reduceIte] <;> rfl))
            | (apply R_grd
               · (simp only [yieldedA, RY, Nat.reduceEqDiff, reduceIte] <;> rfl)))
          refine R_call (p := fun v h' => h'.obj 4 = some (.row .rw 1 (b32 (rounds (8 * i + 4 + (k2 + 1)) (first k n' c)))) ∧ (∀ q, q ≠ 4 → h'.obj q = h.obj q) ∧ h'.nx = h.nx) ?_ ?_
          · simp only [op_call, ev_tmp, ev_func, List.map_cons, List.map_nil, upd_apply, Nat.reduceEqDiff, if_true, if_false, reduceIte, k8]
            rw [roundB i k2 hk2]
            exact quarter90 (n + 1) _ hx 4 _ _ _ _ (by omega) (by omega) (by omega) (by omega) h o4
          · intro v h1 ⟨p4, pq, pn⟩
            have p2 := pq 2 (by decide)
            have p3 := pq 3 (by decide)
            repeat (first
              | refine R_seq ?_ | refine R_region ?_ | refine R_nil ?_ | refine Q_seq ?_ | refine Q_norm ?_ | refine Q_seqr ?_ | refine Q_seqx ?_ | refine Q_bl ?_ | refine Q_blr ?_ | refine Q_blx ?_ | refine Q_blo rfl ?_ | refine R_block ?_ | refine R_skip ?_ | refine R_exit ?_ | refine R_ret ?_ | refine I_true ?_ | refine I_false ?_ | refine N_exit ?_ | refine N_ret ?_
              | ((first | apply R_op | apply R_op0)
                 · (first | (simp (maxDischargeDepth := 9) only [RA, Nat.reduceEqDiff, Nat.reduceLT, Nat.reduceLeDiff, Nat.reduceAdd, Nat.reduceSub, Nat.reduceMul, Nat.reduceDiv, Nat.reduceMod, Nat.reducePow, Nat.reduceBEq, Nat.reduceGT, reduceIte, j22, k20, k8, hk2, T3, T5, T22, T30, T32, T33, T84, cv32_8 Try.underlying22 Try.underlying5] <;> rfl) | ((repeat (first | (simp (maxDischargeDepth := 9) only [RA, Nat.reduceEqDiff, Nat.reduceLT, Nat.reduceLeDiff, Nat.reduceAdd, Nat.reduceSub, Nat.reduceMul, Nat.reduceDiv, Nat.reduceMod, Nat.reducePow, Nat.reduceBEq, Nat.reduceGT, reduceIte, j22, k20, k8, hk2, T3, T5, T22, T30, T32, T33, T84, cv32_8 Try.underlying22 Try.underlying5]; done) | simp (maxDischargeDepth := 9) only [RA, Nat.reduceEqDiff, Nat.reduceLT, Nat.reduceLeDiff, Nat.reduceAdd, Nat.reduceSub, Nat.reduceMul, Nat.reduceDiv, Nat.reduceMod, Nat.reducePow, Nat.reduceBEq, Nat.reduceGT, reduceIte, j22, k20, k8, hk2, T3, T5, T22, T30, T32, T33, T84, cv32_8 Try.underlying22 Try.underlying5] | simp (disch := first | assumption | omega) only [RV, j22, k20, k8, hk2, T3, T5, T22, T30, T32, T33, T84, cv32_8 Try.underlying22 Try.underlying5])) <;> rfl)))
              | (apply R_cond
                 · (simp only [RE, Nat.reduceEqDiff, Nat.reduceLT, Nat.reduceLeDiff, Nat.reduceBEq, reduceIte] <;> rfl))
              | (apply R_grd
                 · (simp only [yieldedA, RY, Nat.reduceEqDiff, reduceIte] <;> rfl)))
            refine ⟨rfl, ?_, ?_, ?_, ?_, ?_, ?_, ?_, ?_, ?_⟩ <;> (try simp only [List.map_cons, List.map_nil, RH, Nat.reduceAdd, Nat.reduceEqDiff, reduceIte, ev_tmp, ev_const, lit_iv, lit_w8, lit_w32, lit_w64, envOf0, envOf1, envOf2, envOf3, envOf4, envOf5, j22, k20, k6, k7, k8, p2, p3, p4, o2, o3, hnx, pn, T3, T5, T22, T30, T32, T33, T84, cv32_8 Try.underlying22 Try.underlying5])
        · intro e h ⟨j22, k20, k6, k7, k8, o2, o3, o4, hnx⟩
          repeat (first
            | refine R_seq ?_ | refine R_region ?_ | refine R_nil ?_ | refine Q_seq ?_ | refine Q_norm ?_ | refine Q_seqr ?_ | refine Q_seqx ?_ | refine Q_bl ?_ | refine Q_blr ?_ | refine Q_blx ?_ | refine Q_blo rfl ?_ | refine R_block ?_ | refine R_skip ?_ | refine R_exit ?_ | refine R_ret ?_ | refine I_true ?_ | refine I_false ?_ | refine N_exit ?_ | refine N_ret ?_
            | ((first | apply R_op | apply R_op0)
               · (first | (simp (maxDischargeDepth := 9) only [RA, Nat.reduceEqDiff, Nat.reduceLT, Nat.reduceLeDiff, Nat.reduceAdd, Nat.reduceSub, Nat.reduceMul, Nat.reduceDiv, Nat.reduceMod, Nat.reducePow, Nat.reduceBEq, Nat.reduceGT, reduceIte, j22, T3, T5, T22, T30, T32, T33, T84, cv32_8 Try.underlying22 Try.underlying5] <;> rfl) | ((repeat (first | (simp (maxDischargeDepth := 9) only [RA, Nat.reduceEqDiff, Nat.reduceLT, Nat.reduceLeDiff, Nat.reduceAdd, Nat.reduceSub, Nat.reduceMul, Nat.reduceDiv, Nat.reduceMod, Nat.reducePow, Nat.reduceBEq, Nat.reduceGT, reduceIte, j22, T3, T5, T22, T30, T32, T33, T84, cv32_8 Try.underlying22 Try.underlying5]; done) | simp (maxDischargeDepth := 9) only [RA, Nat.reduceEqDiff, Nat.reduceLT, Nat.reduceLeDiff, Nat.reduceAdd, Nat.reduceSub, Nat.reduceMul, Nat.reduceDiv, Nat.reduceMod, Nat.reducePow, Nat.reduceBEq, Nat.reduceGT, reduceIte, j22, T3, T5, T22, T30, T32, T33, T84, cv32_8 Try.underlying22 Try.underlying5] | simp (disch := first | assumption | omega) only [RV, j22, T3, T5, T22, T30, T32, T33, T84, cv32_8 Try.underlying22 Try.underlying5])) <;> rfl)))
            | (apply R_cond
               · (simp only [RE, Nat.reduceEqDiff, Nat.reduceLT, Nat.reduceLeDiff, Nat.reduceBEq, reduceIte] <;> rfl))
            | (apply R_grd
               · (simp only [yieldedA, RY, Nat.reduceEqDiff, reduceIte] <;> rfl)))
          repeat (first
            | refine R_seq ?_ | refine R_region ?_ | refine R_nil ?_ | refine Q_seq ?_ | refine Q_norm ?_ | refine Q_seqr ?_ | refine Q_seqx ?_ | refine Q_bl ?_ | refine Q_blr ?_ | refine Q_blx ?_ | refine Q_blo rfl ?_ | refine R_block ?_ | refine R_skip ?_ | refine R_exit ?_ | refine R_ret ?_ | refine I_true ?_ | refine I_false ?_ | refine N_exit ?_ | refine N_ret ?_
            | ((first | apply R_op | apply R_op0)
               · (first | (simp (maxDischargeDepth := 9) only [RA, Nat.reduceEqDiff, Nat.reduceLT, Nat.reduceLeDiff, Nat.reduceAdd, Nat.reduceSub, Nat.reduceMul, Nat.reduceDiv, Nat.reduceMod, Nat.reducePow, Nat.reduceBEq, Nat.reduceGT, reduceIte, j22, k20, hi, T3, T5, T22, T30, T32, T33, T84, cv32_8 Try.underlying22 Try.underlying5] <;> rfl) | ((repeat (first | (simp (maxDischargeDepth := 9) only [RA, Nat.reduceEqDiff, Nat.reduceLT, Nat.reduceLeDiff, Nat.reduceAdd, Nat.reduceSub, Nat.reduceMul, Nat.reduceDiv, Nat.reduceMod, Nat.reducePow, Nat.reduceBEq, Nat.reduceGT, reduceIte, j22, k20, hi, T3, T5, T22, T30, T32, T33, T84, cv32_8 Try.underlying22 Try.underlying5]; done) | simp (maxDischargeDepth := 9) only [RA, Nat.reduceEqDiff, Nat.reduceLT, Nat.reduceLeDiff, Nat.reduceAdd, Nat.reduceSub, Nat.reduceMul, Nat.reduceDiv, Nat.reduceMod, Nat.reducePow, Nat.reduceBEq, Nat.reduceGT, reduceIte, j22, k20, hi, T3, T5, T22, T30, T32, T33, T84, cv32_8 Try.underlying22 Try.underlying5] | simp (disch := first | assumption | omega) only [RV, j22, k20, hi, T3, T5, T22, T30, T32, T33, T84, cv32_8 Try.underlying22 Try.underlying5])) <;> rfl)))
            | (apply R_cond
               · (simp only [RE, Nat.reduceEqDiff, Nat.reduceLT, Nat.reduceLeDiff, Nat.reduceBEq, reduceIte] <;> rfl))
            | (apply R_grd
               · (simp only [yieldedA, RY, Nat.reduceEqDiff, reduceIte] <;> rfl)))
          refine ⟨rfl, ?_, ?_, ?_, ?_, ?_, ?_, ?_, ?_⟩ <;> (try simp only [List.map_cons, List.map_nil, RH, Nat.reduceAdd, Nat.reduceEqDiff, reduceIte, ev_tmp, ev_const, lit_iv, lit_w8, lit_w32, lit_w64, envOf0, envOf1, envOf2, envOf3, envOf4, envOf5, j22, k20, k6, k7, k8, o2, o3, o4, hnx, T3, T5, T22, T30, T32, T33, T84, cv32_8 Try.underlying22 Try.underlying5])
          rw [show 8 * i + 4 + 4 = 8 * (i + 1) by omega]
    · intro e h ⟨k20, k6, k7, k8, o2, o3, o4, hnx⟩
      repeat (first
        | refine R_seq ?_ | refine R_region ?_ | refine R_nil ?_ | refine Q_seq ?_ | refine Q_norm ?_ | refine Q_seqr ?_ | refine Q_seqx ?_ | refine Q_bl ?_ | refine Q_blr ?_ | refine Q_blx ?_ | refine Q_blo rfl ?_ | refine R_block ?_ | refine R_skip ?_ | refine R_exit ?_ | refine R_ret ?_ | refine I_true ?_ | refine I_false ?_ | refine N_exit ?_ | refine N_ret ?_
        | ((first | apply R_op | apply R_op0)
           · (first | (simp (maxDischargeDepth := 9) only [RA, Nat.reduceEqDiff, Nat.reduceLT, Nat.reduceLeDiff, Nat.reduceAdd, Nat.reduceSub, Nat.reduceMul, Nat.reduceDiv, Nat.reduceMod, Nat.reducePow, Nat.reduceBEq, Nat.reduceGT, reduceIte, k20, T3, T5, T22, T30, T32, T33, T84, cv32_8 Try.underlying22 Try.underlying5] <;> rfl) | ((repeat (first | (simp (maxDischargeDepth := 9) only [RA, Nat.reduceEqDiff, Nat.reduceLT, Nat.reduceLeDiff, Nat.reduceAdd, Nat.reduceSub, Nat.reduceMul, Nat.reduceDiv, Nat.reduceMod, Nat.reducePow, Nat.reduceBEq, Nat.reduceGT, reduceIte, k20, T3, T5, T22, T30, T32, T33, T84, cv32_8 Try.underlying22 Try.underlying5]; done) | simp (maxDischargeDepth := 9) only [RA, Nat.reduceEqDiff, Nat.reduceLT, Nat.reduceLeDiff, Nat.reduceAdd, Nat.reduceSub, Nat.reduceMul, Nat.reduceDiv, Nat.reduceMod, Nat.reducePow, Nat.reduceBEq, Nat.reduceGT, reduceIte, k20, T3, T5, T22, T30, T32, T33, T84, cv32_8 Try.underlying22 Try.underlying5] | simp (disch := first | assumption | omega) only [RV, k20, T3, T5, T22, T30, T32, T33, T84, cv32_8 Try.underlying22 Try.underlying5])) <;> rfl)))
        | (apply R_cond
           · (simp only [RE, Nat.reduceEqDiff, Nat.reduceLT, Nat.reduceLeDiff, Nat.reduceBEq, reduceIte] <;> rfl))
        | (apply R_grd
           · (simp only [yieldedA, RY, Nat.reduceEqDiff, reduceIte] <;> rfl)))
      have hX : (rounds 80 (first k n' c)).length = 16 := by rw [rounds_length, first_length]
      replace o4 : h.obj 4 = some (.row .rw 1 (b32 (rounds 80 (first k n' c)))) := o4
      repeat (first
        | refine R_seq ?_ | refine R_region ?_ | refine R_nil ?_ | refine Q_seq ?_ | refine Q_norm ?_ | refine Q_seqr ?_ | refine Q_seqx ?_ | refine Q_bl ?_ | refine Q_blr ?_ | refine Q_blx ?_ | refine Q_blo rfl ?_ | refine R_block ?_ | refine R_skip ?_ | refine R_exit ?_ | refine R_ret ?_ | refine I_true ?_ | refine I_false ?_ | refine N_exit ?_ | refine N_ret ?_
        | ((first | apply R_op | apply R_op0)
           · (first | (simp (maxDischargeDepth := 9) only [RA, Nat.reduceEqDiff, Nat.reduceLT, Nat.reduceLeDiff, Nat.reduceAdd, Nat.reduceSub, Nat.reduceMul, Nat.reduceDiv, Nat.reduceMod, Nat.reducePow, Nat.reduceBEq, Nat.reduceGT, reduceIte, k6, k7, k8, o2, o3, o4, hnx, T33, T84, cut32 hX, T3, T5, T22, T30, T32, cv32_8 Try.underlying22 Try.underlying5] <;> rfl) | ((repeat (first | (simp (maxDischargeDepth := 9) only [RA, Nat.reduceEqDiff, Nat.reduceLT, Nat.reduceLeDiff, Nat.reduceAdd, Nat.reduceSub, Nat.reduceMul, Nat.reduceDiv, Nat.reduceMod, Nat.reducePow, Nat.reduceBEq, Nat.reduceGT, reduceIte, k6, k7, k8, o2, o3, o4, hnx, T33, T84, cut32 hX, T3, T5, T22, T30, T32, cv32_8 Try.underlying22 Try.underlying5]; done) | simp (maxDischargeDepth := 9) only [RA, Nat.reduceEqDiff, Nat.reduceLT, Nat.reduceLeDiff, Nat.reduceAdd, Nat.reduceSub, Nat.reduceMul, Nat.reduceDiv, Nat.reduceMod, Nat.reducePow, Nat.reduceBEq, Nat.reduceGT, reduceIte, k6, k7, k8, o2, o3, o4, hnx, T33, T84, cut32 hX, T3, T5, T22, T30, T32, cv32_8 Try.underlying22 Try.underlying5] | simp (disch := first | assumption | omega) only [RV, k6, k7, k8, o2, o3, o4, hnx, T33, T84, cut32 hX, T3, T5, T22, T30, T32, cv32_8 Try.underlying22 Try.underlying5])) <;> rfl)))
        | (apply R_cond
           · (simp only [RE, Nat.reduceEqDiff, Nat.reduceLT, Nat.reduceLeDiff, Nat.reduceBEq, reduceIte] <;> rfl))
        | (apply R_grd
           · (simp only [yieldedA, RY, Nat.reduceEqDiff, reduceIte] <;> rfl)))
      refine W_loop (fun a e h => e 54 = iv a ∧ e 53 = .agg ⟨b32 (rounds 80 (first k n' c))⟩ ∧ e 6 = .pointer (some ⟨2, 0, none⟩) ∧ e 7 = .pointer (some ⟨3, 0, none⟩) ∧ e 11 = .pointer (some ⟨5, 0, none⟩) ∧ h.obj 2 = some (.row .rw 1 (b8 (List.replicate 64 0#8))) ∧ h.obj 3 = some (.row .rw 1 (b32 (first k n' c))) ∧ h.obj 5 = some (.row .rw 1 (b8 (filled (outAt (rounds 80 (first k n' c)) (first k n' c)) 0#8 64 (4 * a))))) 16 (by decide) ?_ ?_ ?_
      · refine ⟨?_, ?_, ?_, ?_, ?_, ?_, ?_, ?_⟩ <;> (try simp only [List.map_cons, List.map_nil, RH, Nat.reduceAdd, Nat.reduceEqDiff, reduceIte, ev_tmp, ev_const, lit_iv, lit_w8, lit_w32, lit_w64, envOf0, envOf1, envOf2, envOf3, envOf4, envOf5, k6, k7, k8, o2, o3, o4, hnx, rep8, Nat.mul_zero, filled_zero, T3, T5, T22, T30, T32, T33, T84, cv32_8 Try.underlying22 Try.underlying5])
      · intro a ha e h ⟨j54, j53, k6, k7, k11, o2, o3, o5⟩
        have ha2 : a < (rounds 80 (first k n' c)).length := by omega
        have ha3 : a < (first k n' c).length := by rw [first_length]; omega
        repeat (first
          | refine R_seq ?_ | refine R_region ?_ | refine R_nil ?_ | refine Q_seq ?_ | refine Q_norm ?_ | refine Q_seqr ?_ | refine Q_seqx ?_ | refine Q_bl ?_ | refine Q_blr ?_ | refine Q_blx ?_ | refine Q_blo rfl ?_ | refine R_block ?_ | refine R_skip ?_ | refine R_exit ?_ | refine R_ret ?_ | refine I_true ?_ | refine I_false ?_ | refine N_exit ?_ | refine N_ret ?_
          | (refine R_draw (by kernel_rfl) ?_)
          | ((first | apply R_op | apply R_op0)
             · (first | (simp (maxDischargeDepth := 9) only [RA, Nat.reduceEqDiff, Nat.reduceLT, Nat.reduceLeDiff, Nat.reduceAdd, Nat.reduceSub, Nat.reduceMul, Nat.reduceDiv, Nat.reduceMod, Nat.reducePow, Nat.reduceBEq, Nat.reduceGT, reduceIte, j54, j53, k6, k7, k11, o2, o3, ha, ix84 ha, idx32 ha2, ia84 ha, get32 ha3, T22, T3, T5, T30, T32, T33, T84, cv32_8 Try.underlying22 Try.underlying5] <;> rfl) | ((repeat (first | (simp (maxDischargeDepth := 9) only [RA, Nat.reduceEqDiff, Nat.reduceLT, Nat.reduceLeDiff, Nat.reduceAdd, Nat.reduceSub, Nat.reduceMul, Nat.reduceDiv, Nat.reduceMod, Nat.reducePow, Nat.reduceBEq, Nat.reduceGT, reduceIte, j54, j53, k6, k7, k11, o2, o3, ha, ix84 ha, idx32 ha2, ia84 ha, get32 ha3, T22, T3, T5, T30, T32, T33, T84, cv32_8 Try.underlying22 Try.underlying5]; done) | simp (maxDischargeDepth := 9) only [RA, Nat.reduceEqDiff, Nat.reduceLT, Nat.reduceLeDiff, Nat.reduceAdd, Nat.reduceSub, Nat.reduceMul, Nat.reduceDiv, Nat.reduceMod, Nat.reducePow, Nat.reduceBEq, Nat.reduceGT, reduceIte, j54, j53, k6, k7, k11, o2, o3, ha, ix84 ha, idx32 ha2, ia84 ha, get32 ha3, T22, T3, T5, T30, T32, T33, T84, cv32_8 Try.underlying22 Try.underlying5] | simp (disch := first | assumption | omega) only [RV, j54, j53, k6, k7, k11, o2, o3, ha, ix84 ha, idx32 ha2, ia84 ha, get32 ha3, T22, T3, T5, T30, T32, T33, T84, cv32_8 Try.underlying22 Try.underlying5])) <;> rfl)))
          | (apply R_cond
             · (simp only [RE, Nat.reduceEqDiff, Nat.reduceLT, Nat.reduceLeDiff, Nat.reduceBEq, reduceIte] <;> rfl))
          | (apply R_grd
             · (simp only [yieldedA, RY, Nat.reduceEqDiff, reduceIte] <;> rfl)))
        refine W_loop (fun j e h => e 63 = iv j ∧ e 12 = iv a ∧ e 13 = w32 ((rounds 80 (first k n' c)).getD a 0#32 + (first k n' c).getD a 0#32) ∧ e 54 = iv a ∧ e 53 = .agg ⟨b32 (rounds 80 (first k n' c))⟩ ∧ e 6 = .pointer (some ⟨2, 0, none⟩) ∧ e 7 = .pointer (some ⟨3, 0, none⟩) ∧ e 11 = .pointer (some ⟨5, 0, none⟩) ∧ h.obj 2 = some (.row .rw 1 (b8 (List.replicate 64 0#8))) ∧ h.obj 3 = some (.row .rw 1 (b32 (first k n' c))) ∧ h.obj 5 = some (.row .rw 1 (b8 (filled (outAt (rounds 80 (first k n' c)) (first k n' c)) 0#8 64 (4 * a + j))))) 4 (by decide) ?_ ?_ ?_
        · refine ⟨?_, ?_, ?_, ?_, ?_, ?_, ?_, ?_, ?_, ?_, ?_⟩ <;> (try simp only [List.map_cons, List.map_nil, RH, Nat.reduceAdd, Nat.reduceEqDiff, reduceIte, ev_tmp, ev_const, lit_iv, lit_w8, lit_w32, lit_w64, envOf0, envOf1, envOf2, envOf3, envOf4, envOf5, j54, j53, k6, k7, k11, o2, o3, o5, Nat.add_zero, T3, T5, T22, T30, T32, T33, T84, cv32_8 Try.underlying22 Try.underlying5])
        · intro j hj e h ⟨j63, j12, j13, j54, j53, k6, k7, k11, o2, o3, o5⟩
          have hl : (filled (outAt (rounds 80 (first k n' c)) (first k n' c)) 0#8 64 (4 * a + j)).length = 64 := filled_length _ _ (by omega)
          repeat (first
            | refine R_seq ?_ | refine R_region ?_ | refine R_nil ?_ | refine Q_seq ?_ | refine Q_norm ?_ | refine Q_seqr ?_ | refine Q_seqx ?_ | refine Q_bl ?_ | refine Q_blr ?_ | refine Q_blx ?_ | refine Q_blo rfl ?_ | refine R_block ?_ | refine R_skip ?_ | refine R_exit ?_ | refine R_ret ?_ | refine I_true ?_ | refine I_false ?_ | refine N_exit ?_ | refine N_ret ?_
            | (refine R_draw (by kernel_rfl) ?_)
            | ((first | apply R_op | apply R_op0)
               · (first | (simp (maxDischargeDepth := 9) only [RA, Nat.reduceEqDiff, Nat.reduceLT, Nat.reduceLeDiff, Nat.reduceAdd, Nat.reduceSub, Nat.reduceMul, Nat.reduceDiv, Nat.reduceMod, Nat.reducePow, Nat.reduceBEq, Nat.reduceGT, reduceIte, j63, j12, j13, k11, o5, hj, ha, hl, T33, T5, cv32_8 Try.underlying22 Try.underlying5, T3, T22, T30, T32, T84] <;> rfl) | ((repeat (first | (simp (maxDischargeDepth := 9) only [RA, Nat.reduceEqDiff, Nat.reduceLT, Nat.reduceLeDiff, Nat.reduceAdd, Nat.reduceSub, Nat.reduceMul, Nat.reduceDiv, Nat.reduceMod, Nat.reducePow, Nat.reduceBEq, Nat.reduceGT, reduceIte, j63, j12, j13, k11, o5, hj, ha, hl, T33, T5, cv32_8 Try.underlying22 Try.underlying5, T3, T22, T30, T32, T84]; done) | simp (maxDischargeDepth := 9) only [RA, Nat.reduceEqDiff, Nat.reduceLT, Nat.reduceLeDiff, Nat.reduceAdd, Nat.reduceSub, Nat.reduceMul, Nat.reduceDiv, Nat.reduceMod, Nat.reducePow, Nat.reduceBEq, Nat.reduceGT, reduceIte, j63, j12, j13, k11, o5, hj, ha, hl, T33, T5, cv32_8 Try.underlying22 Try.underlying5, T3, T22, T30, T32, T84] | simp (disch := first | assumption | omega) only [RV, j63, j12, j13, k11, o5, hj, ha, hl, T33, T5, cv32_8 Try.underlying22 Try.underlying5, T3, T22, T30, T32, T84])) <;> rfl)))
            | (apply R_cond
               · (simp only [RE, Nat.reduceEqDiff, Nat.reduceLT, Nat.reduceLeDiff, Nat.reduceBEq, reduceIte] <;> rfl))
            | (apply R_grd
               · (simp only [yieldedA, RY, Nat.reduceEqDiff, reduceIte] <;> rfl)))
          refine ⟨rfl, ?_, ?_, ?_, ?_, ?_, ?_, ?_, ?_, ?_, ?_, ?_⟩ <;> (try simp only [List.map_cons, List.map_nil, RH, Nat.reduceAdd, Nat.reduceEqDiff, reduceIte, ev_tmp, ev_const, lit_iv, lit_w8, lit_w32, lit_w64, envOf0, envOf1, envOf2, envOf3, envOf4, envOf5, j63, j12, j13, j54, j53, k6, k7, k11, o2, o3, o5, T3, T5, T22, T30, T32, T33, T84, cv32_8 Try.underlying22 Try.underlying5])
          rw [← outAt_eq _ _ a j hj, filled_set _ _ (by omega)]
          rfl
        · intro e h ⟨j63, j12, j13, j54, j53, k6, k7, k11, o2, o3, o5⟩
          repeat (first
            | refine R_seq ?_ | refine R_region ?_ | refine R_nil ?_ | refine Q_seq ?_ | refine Q_norm ?_ | refine Q_seqr ?_ | refine Q_seqx ?_ | refine Q_bl ?_ | refine Q_blr ?_ | refine Q_blx ?_ | refine Q_blo rfl ?_ | refine R_block ?_ | refine R_skip ?_ | refine R_exit ?_ | refine R_ret ?_ | refine I_true ?_ | refine I_false ?_ | refine N_exit ?_ | refine N_ret ?_
            | ((first | apply R_op | apply R_op0)
               · (first | (simp (maxDischargeDepth := 9) only [RA, Nat.reduceEqDiff, Nat.reduceLT, Nat.reduceLeDiff, Nat.reduceAdd, Nat.reduceSub, Nat.reduceMul, Nat.reduceDiv, Nat.reduceMod, Nat.reducePow, Nat.reduceBEq, Nat.reduceGT, reduceIte, j63, T3, T5, T22, T30, T32, T33, T84, cv32_8 Try.underlying22 Try.underlying5] <;> rfl) | ((repeat (first | (simp (maxDischargeDepth := 9) only [RA, Nat.reduceEqDiff, Nat.reduceLT, Nat.reduceLeDiff, Nat.reduceAdd, Nat.reduceSub, Nat.reduceMul, Nat.reduceDiv, Nat.reduceMod, Nat.reducePow, Nat.reduceBEq, Nat.reduceGT, reduceIte, j63, T3, T5, T22, T30, T32, T33, T84, cv32_8 Try.underlying22 Try.underlying5]; done) | simp (maxDischargeDepth := 9) only [RA, Nat.reduceEqDiff, Nat.reduceLT, Nat.reduceLeDiff, Nat.reduceAdd, Nat.reduceSub, Nat.reduceMul, Nat.reduceDiv, Nat.reduceMod, Nat.reducePow, Nat.reduceBEq, Nat.reduceGT, reduceIte, j63, T3, T5, T22, T30, T32, T33, T84, cv32_8 Try.underlying22 Try.underlying5] | simp (disch := first | assumption | omega) only [RV, j63, T3, T5, T22, T30, T32, T33, T84, cv32_8 Try.underlying22 Try.underlying5])) <;> rfl)))
            | (apply R_cond
               · (simp only [RE, Nat.reduceEqDiff, Nat.reduceLT, Nat.reduceLeDiff, Nat.reduceBEq, reduceIte] <;> rfl))
            | (apply R_grd
               · (simp only [yieldedA, RY, Nat.reduceEqDiff, reduceIte] <;> rfl)))
          repeat (first
            | refine R_seq ?_ | refine R_region ?_ | refine R_nil ?_ | refine Q_seq ?_ | refine Q_norm ?_ | refine Q_seqr ?_ | refine Q_seqx ?_ | refine Q_bl ?_ | refine Q_blr ?_ | refine Q_blx ?_ | refine Q_blo rfl ?_ | refine R_block ?_ | refine R_skip ?_ | refine R_exit ?_ | refine R_ret ?_ | refine I_true ?_ | refine I_false ?_ | refine N_exit ?_ | refine N_ret ?_
            | ((first | apply R_op | apply R_op0)
               · (first | (simp (maxDischargeDepth := 9) only [RA, Nat.reduceEqDiff, Nat.reduceLT, Nat.reduceLeDiff, Nat.reduceAdd, Nat.reduceSub, Nat.reduceMul, Nat.reduceDiv, Nat.reduceMod, Nat.reducePow, Nat.reduceBEq, Nat.reduceGT, reduceIte, j63, j54, ha, T3, T5, T22, T30, T32, T33, T84, cv32_8 Try.underlying22 Try.underlying5] <;> rfl) | ((repeat (first | (simp (maxDischargeDepth := 9) only [RA, Nat.reduceEqDiff, Nat.reduceLT, Nat.reduceLeDiff, Nat.reduceAdd, Nat.reduceSub, Nat.reduceMul, Nat.reduceDiv, Nat.reduceMod, Nat.reducePow, Nat.reduceBEq, Nat.reduceGT, reduceIte, j63, j54, ha, T3, T5, T22, T30, T32, T33, T84, cv32_8 Try.underlying22 Try.underlying5]; done) | simp (maxDischargeDepth := 9) only [RA, Nat.reduceEqDiff, Nat.reduceLT, Nat.reduceLeDiff, Nat.reduceAdd, Nat.reduceSub, Nat.reduceMul, Nat.reduceDiv, Nat.reduceMod, Nat.reducePow, Nat.reduceBEq, Nat.reduceGT, reduceIte, j63, j54, ha, T3, T5, T22, T30, T32, T33, T84, cv32_8 Try.underlying22 Try.underlying5] | simp (disch := first | assumption | omega) only [RV, j63, j54, ha, T3, T5, T22, T30, T32, T33, T84, cv32_8 Try.underlying22 Try.underlying5])) <;> rfl)))
            | (apply R_cond
               · (simp only [RE, Nat.reduceEqDiff, Nat.reduceLT, Nat.reduceLeDiff, Nat.reduceBEq, reduceIte] <;> rfl))
            | (apply R_grd
               · (simp only [yieldedA, RY, Nat.reduceEqDiff, reduceIte] <;> rfl)))
          refine ⟨rfl, ?_, ?_, ?_, ?_, ?_, ?_, ?_, ?_⟩ <;> (try simp only [List.map_cons, List.map_nil, RH, Nat.reduceAdd, Nat.reduceEqDiff, reduceIte, ev_tmp, ev_const, lit_iv, lit_w8, lit_w32, lit_w64, envOf0, envOf1, envOf2, envOf3, envOf4, envOf5, j54, j53, k6, k7, k11, o2, o3, o5, T3, T5, T22, T30, T32, T33, T84, cv32_8 Try.underlying22 Try.underlying5])
          rw [show 4 * a + 4 = 4 * (a + 1) by omega]
      · intro e h ⟨j54, j53, k6, k7, k11, o2, o3, o5⟩
        replace o5 : h.obj 5 = some (.row .rw 1 (b8 (outBytes (rounds 80 (first k n' c)) (first k n' c)))) := by rw [o5, show 4 * 16 = 64 from rfl, filled_full]; unfold outBytes; rfl
        have hl : (outBytes (rounds 80 (first k n' c)) (first k n' c)).length = 64 := by unfold outBytes; simp
        repeat (first
          | refine R_seq ?_ | refine R_region ?_ | refine R_nil ?_ | refine Q_seq ?_ | refine Q_norm ?_ | refine Q_seqr ?_ | refine Q_seqx ?_ | refine Q_bl ?_ | refine Q_blr ?_ | refine Q_blx ?_ | refine Q_blo rfl ?_ | refine R_block ?_ | refine R_skip ?_ | refine R_exit ?_ | refine R_ret ?_ | refine I_true ?_ | refine I_false ?_ | refine N_exit ?_ | refine N_ret ?_
          | ((first | apply R_op | apply R_op0)
             · (first | (simp (maxDischargeDepth := 9) only [RA, Nat.reduceEqDiff, Nat.reduceLT, Nat.reduceLeDiff, Nat.reduceAdd, Nat.reduceSub, Nat.reduceMul, Nat.reduceDiv, Nat.reduceMod, Nat.reducePow, Nat.reduceBEq, Nat.reduceGT, reduceIte, j54, T3, T5, T22, T30, T32, T33, T84, cv32_8 Try.underlying22 Try.underlying5] <;> rfl) | ((repeat (first | (simp (maxDischargeDepth := 9) only [RA, Nat.reduceEqDiff, Nat.reduceLT, Nat.reduceLeDiff, Nat.reduceAdd, Nat.reduceSub, Nat.reduceMul, Nat.reduceDiv, Nat.reduceMod, Nat.reducePow, Nat.reduceBEq, Nat.reduceGT, reduceIte, j54, T3, T5, T22, T30, T32, T33, T84, cv32_8 Try.underlying22 Try.underlying5]; done) | simp (maxDischargeDepth := 9) only [RA, Nat.reduceEqDiff, Nat.reduceLT, Nat.reduceLeDiff, Nat.reduceAdd, Nat.reduceSub, Nat.reduceMul, Nat.reduceDiv, Nat.reduceMod, Nat.reducePow, Nat.reduceBEq, Nat.reduceGT, reduceIte, j54, T3, T5, T22, T30, T32, T33, T84, cv32_8 Try.underlying22 Try.underlying5] | simp (disch := first | assumption | omega) only [RV, j54, T3, T5, T22, T30, T32, T33, T84, cv32_8 Try.underlying22 Try.underlying5])) <;> rfl)))
          | (apply R_cond
             · (simp only [RE, Nat.reduceEqDiff, Nat.reduceLT, Nat.reduceLeDiff, Nat.reduceBEq, reduceIte] <;> rfl))
          | (apply R_grd
             · (simp only [yieldedA, RY, Nat.reduceEqDiff, reduceIte] <;> rfl)))
        repeat (first
          | refine R_seq ?_ | refine R_region ?_ | refine R_nil ?_ | refine Q_seq ?_ | refine Q_norm ?_ | refine Q_seqr ?_ | refine Q_seqx ?_ | refine Q_bl ?_ | refine Q_blr ?_ | refine Q_blx ?_ | refine Q_blo rfl ?_ | refine R_block ?_ | refine R_skip ?_ | refine R_exit ?_ | refine R_ret ?_ | refine I_true ?_ | refine I_false ?_ | refine N_exit ?_ | refine N_ret ?_
          | ((first | apply R_op | apply R_op0)
             · (first | (simp (maxDischargeDepth := 9) only [RA, Nat.reduceEqDiff, Nat.reduceLT, Nat.reduceLeDiff, Nat.reduceAdd, Nat.reduceSub, Nat.reduceMul, Nat.reduceDiv, Nat.reduceMod, Nat.reducePow, Nat.reduceBEq, Nat.reduceGT, reduceIte, k6, k11, o2, o5, T33, cut8 hl, puts8 hl List.length_replicate, T3, T5, T22, T30, T32, T84, cv32_8 Try.underlying22 Try.underlying5] <;> rfl) | ((repeat (first | (simp (maxDischargeDepth := 9) only [RA, Nat.reduceEqDiff, Nat.reduceLT, Nat.reduceLeDiff, Nat.reduceAdd, Nat.reduceSub, Nat.reduceMul, Nat.reduceDiv, Nat.reduceMod, Nat.reducePow, Nat.reduceBEq, Nat.reduceGT, reduceIte, k6, k11, o2, o5, T33, cut8 hl, puts8 hl List.length_replicate, T3, T5, T22, T30, T32, T84, cv32_8 Try.underlying22 Try.underlying5]; done) | simp (maxDischargeDepth := 9) only [RA, Nat.reduceEqDiff, Nat.reduceLT, Nat.reduceLeDiff, Nat.reduceAdd, Nat.reduceSub, Nat.reduceMul, Nat.reduceDiv, Nat.reduceMod, Nat.reducePow, Nat.reduceBEq, Nat.reduceGT, reduceIte, k6, k11, o2, o5, T33, cut8 hl, puts8 hl List.length_replicate, T3, T5, T22, T30, T32, T84, cv32_8 Try.underlying22 Try.underlying5] | simp (disch := first | assumption | omega) only [RV, k6, k11, o2, o5, T33, cut8 hl, puts8 hl List.length_replicate, T3, T5, T22, T30, T32, T84, cv32_8 Try.underlying22 Try.underlying5])) <;> rfl)))
          | (apply R_cond
             · (simp only [RE, Nat.reduceEqDiff, Nat.reduceLT, Nat.reduceLeDiff, Nat.reduceBEq, reduceIte] <;> rfl))
          | (apply R_grd
             · (simp only [yieldedA, RY, Nat.reduceEqDiff, reduceIte] <;> rfl)))
        first | refine ⟨.inr rfl, ?_⟩ | refine ⟨.inl rfl, ?_⟩
        simp only [evResultList, evResult, upd_apply, k6, ld33, obj_put, Nat.reduceEqDiff, if_true, if_false, reduceIte, cut8 hl, Option.map_some]
        refine ⟨_, rfl, ?_⟩
        unfold block
        rfl
  obtain ⟨v, h1, e1, rfl⟩ := this
  exact isoPhi_eq (by first | rfl | simp only [List.all_cons, List.all_nil, closed_agg8, closed_agg32, closed_w8, closed_w32, closed_w64, closed_iv, Bool.and_true]) (by first | rfl | simp only [closed_agg8, closed_agg32]) e1
end Go.Proofs.Ytfehhihllenjiaa
