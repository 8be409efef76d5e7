/- One-time tags: a block is taken. -/
import Derived.Test.YtfehhihllenjiaaKh
import Derived.Test.YtfehhihllenjiaaKg
set_option linter.all false
namespace Go.Proofs.Ytfehhihllenjiaa
open Go.Proofs
theorem N3_low {w : List (BitVec 8)} (hl : w.length = 24) : N3 (lowW (w.take 8)) (lowW ((w.drop 8).take 8)) (lowW (w.drop 16)) = leN w := by
  have e1 : w = w.take 8 ++ ((w.drop 8).take 8 ++ w.drop 16) := by
    conv => lhs; rw [← List.take_append_drop 8 w, ← List.take_append_drop 8 (w.drop 8), List.drop_drop]
  unfold N3
  rw [lowW_toNat (by simp; omega), lowW_toNat (by simp; omega), lowW_toNat (by simp; omega)]
  conv => rhs; rw [e1]
  rw [leN_append, leN_append]
  have p8 : (256 : Nat) ^ 8 = 18446744073709551616 := by decide
  rw [show (w.take 8).length = 8 by simp; omega, show ((w.drop 8).take 8).length = 8 by simp; omega, p8]
  omega
def w24 (b : List (BitVec 8)) : List (BitVec 8) := (b ++ (List.replicate 24 0#8).drop b.length).set b.length 1#8
theorem w24_length {b : List (BitVec 8)} (hl : b.length ≤ 16) : (w24 b).length = 24 := by simp [w24]; omega
theorem w24_N {b : List (BitVec 8)} (hl : b.length ≤ 16) : leN (w24 b) = leN (b ++ [1#8]) := by
  have e : w24 b = (b ++ [1#8]) ++ List.replicate (23 - b.length) 0#8 := by
    unfold w24
    rw [List.set_append_right _ _ (Nat.le_refl _), Nat.sub_self, List.drop_replicate, show 24 - b.length = (23 - b.length) + 1 by omega, List.replicate_succ, List.set_cons_zero, List.append_assoc]
    rfl
  rw [e, leN_append, leN_zeros]; omega
attribute [local irreducible] evOps iter evD evF evC evLoad evStore evAlloc evIndexAddr evIndex evLenB evBox evBin evUn evConvert evExtract evSlice evAppend evCopy evNil evBuild evMakeSlice evBuildSlice evBuiltin Program.underlying
attribute [local irreducible] mulHi addC lowW w24
theorem inl100 : inlOf Try.prog 100 = true := by kernel_rfl
theorem iso100 : isoOf Try.prog 100 = false := by kernel_rfl
set_option maxRecDepth 20000 in
set_option maxHeartbeats 8000000 in
theorem take100 (q : Nat) (h : Heap) (p : Nat) (hp : p < h.nx) (w0 w1 w2 : BitVec 64) (rest : List Value) (ho : h.obj p = some (.row .rw 1 (w64 w0 :: w64 w1 :: w64 w2 :: rest))) (hl : N3 w0 w1 w2 < Q130) (v : Value) (b : List (BitVec 8)) (hb : By h v b) (hbl : b.length ≤ 16) :
    ∃ v' h', fcall Try.prog (q + 4) (.func (.func 100) #[] #[]) [.pointer (some ⟨p, 0, none⟩), v] h = some (.ok v', h') ∧ (∃ s0 s1 s2, h'.obj p = some (.row .rw 1 (w64 s0 :: w64 s1 :: w64 s2 :: rest)) ∧ N3 s0 s1 s2 = N3 w0 w1 w2 + leN (b ++ [1#8])) ∧ h.nx < h'.nx ∧ ∀ r, r ≠ p → r < h.nx → h'.obj r = h.obj r := by
  rw [fcall_inl inl100 iso100, evF_eq Try.func100 rfl]
  apply evEnd_of_W
  simp only [Try.f100]
  have hpe : (p = h.nx) = False := eq_false (by omega)
  repeat (first
    | refine R_seq ?_ | refine R_region ?_ | refine R_nil ?_ | refine Q_seq ?_ | refine Q_norm ?_ | refine Q_seqr ?_ | refine Q_seqx ?_ | refine Q_bl ?_ | refine Q_blr ?_ | refine Q_blx ?_ | refine Q_blo rfl ?_ | refine R_block ?_ | refine R_skip ?_ | refine R_exit ?_ | refine R_ret ?_ | refine I_true ?_ | refine I_false ?_ | refine N_exit ?_ | refine N_ret ?_
    | ((first | apply R_op | apply R_op0)
       · ((repeat (first | simp (maxDischargeDepth := 9) only [RA, Nat.reduceEqDiff, Nat.reduceLT, Nat.reduceLeDiff, Nat.reduceAdd, Nat.reduceSub, Nat.reduceMul, Nat.reduceDiv, Nat.reduceMod, Nat.reducePow, Nat.reduceBEq, Nat.reduceGT, reduceIte, ho, hpe, T5, T38, T93, T105, T107, T127] | simp (disch := first | assumption | omega) only [RV, ho, hpe])) <;> rfl))
    | (apply R_cond
       · (simp only [RE, Nat.reduceEqDiff, Nat.reduceLT, Nat.reduceLeDiff, Nat.reduceBEq, reduceIte] <;> rfl))
    | (apply R_grd
       · (simp only [yieldedA, RY, Nat.reduceEqDiff, reduceIte] <;> rfl)))
  refine R_cpA E38 (p := h.nx) (n := 24) (xs := List.replicate 24 0#8) (w := v) (ys := b) ?_ ?_ ?_ (by simp) (hb.fr0 (by (repeat (first | assumption | exact Fr.refl _ _ | refine Fr.new ?_ ?_ _ _ _ | refine Fr.put ?_ ?_ _ | omega | (simp only [RH]; omega))))) (by omega) ?_
  · first | rfl | (first | rw [ev_tmp] | rw [ev_const] | skip) <;> simp only [upd_apply, Nat.reduceEqDiff, if_true, if_false, reduceIte, lit_iv, lit_w8]
  · first | rfl | (first | rw [ev_tmp] | rw [ev_const] | skip) <;> simp only [upd_apply, Nat.reduceEqDiff, if_true, if_false, reduceIte, lit_iv, lit_w8]
  · simp only [RH]
  intro h1 o1 f1 n1
  simp only [RH] at n1
  have hlen : (b ++ (List.replicate 24 0#8).drop b.length).length = 24 := by simp; omega
  have hb24 : b.length < 24 := by omega
  repeat (first
    | refine R_seq ?_ | refine R_region ?_ | refine R_nil ?_ | refine Q_seq ?_ | refine Q_norm ?_ | refine Q_seqr ?_ | refine Q_seqx ?_ | refine Q_bl ?_ | refine Q_blr ?_ | refine Q_blx ?_ | refine Q_blo rfl ?_ | refine R_block ?_ | refine R_skip ?_ | refine R_exit ?_ | refine R_ret ?_ | refine I_true ?_ | refine I_false ?_ | refine N_exit ?_ | refine N_ret ?_
    | ((first | apply R_op | apply R_op0)
       · ((repeat (first | simp (maxDischargeDepth := 9) only [RA, Nat.reduceEqDiff, Nat.reduceLT, Nat.reduceLeDiff, Nat.reduceAdd, Nat.reduceSub, Nat.reduceMul, Nat.reduceDiv, Nat.reduceMod, Nat.reducePow, Nat.reduceBEq, Nat.reduceGT, reduceIte, o1, S38len hb, hlen, hb24, T5, T38, T93, T105, T107, T127] | simp (disch := first | assumption | omega) only [RV, o1, S38len hb, hlen, hb24])) <;> rfl))
    | (apply R_cond
       · (simp only [RE, Nat.reduceEqDiff, Nat.reduceLT, Nat.reduceLeDiff, Nat.reduceBEq, reduceIte] <;> rfl))
    | (apply R_grd
       · (simp only [yieldedA, RY, Nat.reduceEqDiff, reduceIte] <;> rfl)))
  refine W_heap fun H hH => ?_
  have oW : H.obj h.nx = some (.row .rw 1 (b8 (w24 b))) := by rw [hH]; simp only [RH]; unfold w24; rfl
  have nH : H.nx = h.nx + 1 := by rw [hH]; simp only [RH, n1]
  have fH : ∀ r, r < h.nx → H.obj r = h.obj r := fun r hr => by
    have c1 : (r = h.nx) = False := eq_false (by omega)
    rw [hH]; simp only [RH, c1, reduceIte]; rw [f1 r (by omega)]; simp only [RH, c1, reduceIte]
  clear hH
  have oP := fH p hp
  rw [ho] at oP
  have hwl := w24_length hbl
  have hN : N3 (lowW ((w24 b).take 8)) (lowW (((w24 b).drop 8).take 8)) (lowW ((w24 b).drop 16)) = leN (b ++ [1#8]) := by rw [N3_low hwl, w24_N hbl]
  have hlt : leN (b ++ [1#8]) < 680564733841876926926749214863536422912 := by
    have := leN_lt b
    have h2 : (256 : Nat) ^ b.length ≤ 256 ^ 16 := Nat.pow_le_pow_right (by decide) hbl
    have e : (256 : Nat) ^ 16 = 340282366920938463463374607431768211456 := by decide
    have e1 : (1#8).toNat = 1 := rfl
    rw [leN_snoc, e1]
    omega
  generalize w24 b = w at oW hwl hN
  have b1 : By H (.slice (some ⟨h.nx, 0, none⟩) 8 24) (w.take 8) := by_sub (by omega) oW (by decide) (by omega) (by simp)
  have b2 : By H (.slice (some ⟨h.nx, 0 + 8 * 1, none⟩) (16 - 8) (24 - 8)) ((w.drop 8).take 8) := by_sub (by omega) oW (by decide) (by omega) rfl
  have b3 : By H (.slice (some ⟨h.nx, 0 + 16 * 1, none⟩) (24 - 16) (24 - 16)) (w.drop 16) := by_sub (by omega) oW (by decide) (by omega) (List.take_of_length_le (by simp; omega))
  have l1 := low98 (q + 1) H _ _ b1 (by simp; omega)
  have l2 := low98 (q + 1) H _ _ b2 (by simp; omega)
  have l3 := low98 (q + 1) H _ _ b3 (by simp; omega)
  repeat (first
    | refine R_seq ?_ | refine R_region ?_ | refine R_nil ?_ | refine Q_seq ?_ | refine Q_norm ?_ | refine Q_seqr ?_ | refine Q_seqx ?_ | refine Q_bl ?_ | refine Q_blr ?_ | refine Q_blx ?_ | refine Q_blo rfl ?_ | refine R_block ?_ | refine R_skip ?_ | refine R_exit ?_ | refine R_ret ?_ | refine I_true ?_ | refine I_false ?_ | refine N_exit ?_ | refine N_ret ?_
    | ((first | apply R_op | apply R_op0)
       · ((repeat (first | simp (maxDischargeDepth := 9) only [RA, Nat.reduceEqDiff, Nat.reduceLT, Nat.reduceLeDiff, Nat.reduceAdd, Nat.reduceSub, Nat.reduceMul, Nat.reduceDiv, Nat.reduceMod, Nat.reducePow, Nat.reduceBEq, Nat.reduceGT, reduceIte, T5, T38, T93, T105, T107, T127] | simp (disch := first | assumption | omega) only [RV])) <;> rfl))
    | (apply R_cond
       · (simp only [RE, Nat.reduceEqDiff, Nat.reduceLT, Nat.reduceLeDiff, Nat.reduceBEq, reduceIte] <;> rfl))
    | (apply R_grd
       · (simp only [yieldedA, RY, Nat.reduceEqDiff, reduceIte] <;> rfl)))
  refine D_draw [3, 4, 5, 6, 7, 8] (fun _ => True) (by kernel_rfl) ?_
  repeat (first
    | refine D_nil ?_ | refine I_true ?_ | refine I_false ?_
    | ((first | apply D_op | apply D_op0)
       · ((repeat (first | simp (maxDischargeDepth := 9) only [RA, Nat.reduceEqDiff, Nat.reduceLT, Nat.reduceLeDiff, Nat.reduceAdd, Nat.reduceSub, Nat.reduceMul, Nat.reduceDiv, Nat.reduceMod, Nat.reducePow, Nat.reduceBEq, Nat.reduceGT, reduceIte, l1, l2, l3, T5, T38, T93, T105, T107, T127] | simp (disch := first | assumption | omega) only [RV, l1, l2, l3])) <;> rfl)
       · (intro hF; first | exact chk_pure rfl | exact chk_alloc rfl | exact chk_read rfl | exact chk_iso iso98 | exact chk_call iso98 (fun _ _ _ => rfl) | exact chk_iso iso103 | exact chk_call iso103 (fun _ _ _ => rfl) | (exfalso; revert hF; decide) | ((first | refine chk_load ?_ | refine chk_slice ?_ | refine chk_convert ?_ | refine chk_store ?_ | refine chk_call (by kernel_rfl) ?_); simp only [eq_self, ev_tmp, upd_apply, rowsOfV, List.mem_cons, List.not_mem_nil, or_false, forall_eq, forall_eq_or_imp, obj_put, obj_new, nx_new, nx_put, Nat.reduceEqDiff, if_true, if_false, reduceIte, implies_true, and_self, and_true, true_or, or_true, l1, l2, l3, T5, T38, T93, T105, T107, T127])))
    | (apply D_grd
       · (simp only [yieldedA, RY, Nat.reduceEqDiff, reduceIte] <;> rfl)))
  refine D_fn ?_ (add103 (q + 1) H p w0 w1 w2 _ _ _ rest oP (by rw [hN]; unfold Q130 at hl; omega)) iso103 (fun v4 h4 hp hF => absurd hF (by decide)) ?_
  · rfl
  intro v2 h2 ⟨⟨s0, s1, s2, o2, e2⟩, n2, f2⟩
  repeat (first
    | refine D_nil ?_ | refine I_true ?_ | refine I_false ?_
    | ((first | apply D_op | apply D_op0)
       · ((repeat (first | simp (maxDischargeDepth := 9) only [RA, Nat.reduceEqDiff, Nat.reduceLT, Nat.reduceLeDiff, Nat.reduceAdd, Nat.reduceSub, Nat.reduceMul, Nat.reduceDiv, Nat.reduceMod, Nat.reducePow, Nat.reduceBEq, Nat.reduceGT, reduceIte, T5, T38, T93, T105, T107, T127] | simp (disch := first | assumption | omega) only [RV])) <;> rfl)
       · (intro hF; first | exact chk_pure rfl | exact chk_alloc rfl | exact chk_read rfl | exact chk_iso iso98 | exact chk_call iso98 (fun _ _ _ => rfl) | exact chk_iso iso103 | exact chk_call iso103 (fun _ _ _ => rfl) | (exfalso; revert hF; decide) | ((first | refine chk_load ?_ | refine chk_slice ?_ | refine chk_convert ?_ | refine chk_store ?_ | refine chk_call (by kernel_rfl) ?_); simp only [eq_self, ev_tmp, upd_apply, rowsOfV, List.mem_cons, List.not_mem_nil, or_false, forall_eq, forall_eq_or_imp, obj_put, obj_new, nx_new, nx_put, Nat.reduceEqDiff, if_true, if_false, reduceIte, implies_true, and_self, and_true, true_or, or_true, T5, T38, T93, T105, T107, T127])))
    | (apply D_grd
       · (simp only [yieldedA, RY, Nat.reduceEqDiff, reduceIte] <;> rfl)))
  repeat (first
    | refine R_seq ?_ | refine R_region ?_ | refine R_nil ?_ | refine Q_seq ?_ | refine Q_norm ?_ | refine Q_seqr ?_ | refine Q_seqx ?_ | refine Q_bl ?_ | refine Q_blr ?_ | refine Q_blx ?_ | refine Q_blo rfl ?_ | refine R_block ?_ | refine R_skip ?_ | refine R_exit ?_ | refine R_ret ?_ | refine I_true ?_ | refine I_false ?_ | refine N_exit ?_ | refine N_ret ?_
    | (refine R_draw (by kernel_rfl) ?_)
    | ((first | apply R_op | apply R_op0)
       · ((repeat (first | simp (maxDischargeDepth := 9) only [RA, Nat.reduceEqDiff, Nat.reduceLT, Nat.reduceLeDiff, Nat.reduceAdd, Nat.reduceSub, Nat.reduceMul, Nat.reduceDiv, Nat.reduceMod, Nat.reducePow, Nat.reduceBEq, Nat.reduceGT, reduceIte, T5, T38, T93, T105, T107, T127] | simp (disch := first | assumption | omega) only [RV])) <;> rfl))
    | (apply R_cond
       · (simp only [RE, Nat.reduceEqDiff, Nat.reduceLT, Nat.reduceLeDiff, Nat.reduceBEq, reduceIte] <;> rfl))
    | (apply R_grd
       · (simp only [yieldedA, RY, Nat.reduceEqDiff, reduceIte] <;> rfl)))
  exact ⟨.inl rfl, _, rfl, ⟨s0, s1, s2, o2, by rw [e2, hN]⟩, by omega, fun r hr hr2 => by rw [f2 r hr]; exact fH r hr2⟩
end Go.Proofs.Ytfehhihllenjiaa
