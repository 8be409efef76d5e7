/- One-time tags: laws. -/
import Derived.Test.YtfehhihllenjiaaKk
set_option linter.all false
namespace Go.Proofs.Ytfehhihllenjiaa
open Go.Proofs
theorem put0_set {k : List (BitVec 8)} {i : Nat} (hi : i < k.length) (z : List (BitVec 8)) (hz : z = List.replicate i 0#8 ++ k.drop i) : z.set i 0#8 = List.replicate (i + 1) 0#8 ++ k.drop (i + 1) := by
  rw [hz, List.set_append_right _ _ (by simp), List.length_replicate, Nat.sub_self, List.drop_eq_getElem_cons hi, List.set_cons_zero, List.replicate_succ', List.append_assoc]
  rfl
attribute [local irreducible] evOps iter evD evF evC evLoad evStore evAlloc evIndexAddr evIndex evLenB evBox evBin evUn evConvert evExtract evSlice evAppend evCopy evNil evBuild evMakeSlice evBuildSlice evBuiltin Program.underlying
attribute [local irreducible] polyT pkL pbL ptL clampB cpy
set_option maxRecDepth 20000 in
set_option maxHeartbeats 8000000 in
theorem law20 (h : Heap) (k : List (BitVec 8)) (hk : k.length = 32) (w : Value) (b : List (BitVec 8)) (hb : By h w b) : ∃ v1 h1, evF (cfg0 Try.prog) 13 20 [.agg ⟨b8 k⟩, w] h = some (.ok v1, h1) ∧ v1 = .bool true := by
  rw [evF_eq Try.func20 rfl]
  apply evEnd_of_W
  simp only [Try.f20]
  have hck := fun (kd : Kind) (es : Nat) => cut8 (k := kd) (es := es) hk
  obtain ⟨v2, e2, b2, r2⟩ := few61 11 (newRowH h .rw 1 (b8 k)) w b 300 (hb.fr0 (by (repeat (first | assumption | exact Fr.refl _ _ | refine Fr.new ?_ ?_ _ _ _ | refine Fr.put ?_ ?_ _ | omega | (simp only [RH]; omega)))))
  have hp := fun (H : Heap) (p : Nat) => puts8 (h := H) (b := p) (es := 1) hk (List.length_replicate (n := 32) (a := 0#8))
  repeat (first
    | refine R_seq ?_ | refine R_region ?_ | refine R_nil ?_ | refine Q_seq ?_ | refine Q_norm ?_ | refine Q_seqr ?_ | refine Q_seqx ?_ | refine Q_bl ?_ | refine Q_blr ?_ | refine Q_blx ?_ | refine Q_blo rfl ?_ | refine R_block ?_ | refine R_skip ?_ | refine R_exit ?_ | refine R_ret ?_ | refine I_true ?_ | refine I_false ?_ | refine N_exit ?_ | refine N_ret ?_
    | ((first | apply R_op | apply R_op0)
       · (first | (simp (maxDischargeDepth := 9) only [RA, Nat.reduceEqDiff, Nat.reduceLT, Nat.reduceLeDiff, Nat.reduceAdd, Nat.reduceSub, Nat.reduceMul, Nat.reduceDiv, Nat.reduceMod, Nat.reducePow, Nat.reduceBEq, Nat.reduceGT, reduceIte, e2, hk, hck, hp, T3, T5, T30, T38, T57] <;> rfl) | ((repeat (first | (simp (maxDischargeDepth := 9) only [RA, Nat.reduceEqDiff, Nat.reduceLT, Nat.reduceLeDiff, Nat.reduceAdd, Nat.reduceSub, Nat.reduceMul, Nat.reduceDiv, Nat.reduceMod, Nat.reducePow, Nat.reduceBEq, Nat.reduceGT, reduceIte, e2, hk, hck, hp, T3, T5, T30, T38, T57]; done) | simp (maxDischargeDepth := 9) only [RA, Nat.reduceEqDiff, Nat.reduceLT, Nat.reduceLeDiff, Nat.reduceAdd, Nat.reduceSub, Nat.reduceMul, Nat.reduceDiv, Nat.reduceMod, Nat.reducePow, Nat.reduceBEq, Nat.reduceGT, reduceIte, e2, hk, hck, hp, T3, T5, T30, T38, T57] | simp (disch := first | assumption | omega) only [RV, e2, hk, hck, hp, T3, T5, T30, T38, T57])) <;> rfl)))
    | (apply R_cond
       · (simp only [RE, Nat.reduceEqDiff, Nat.reduceLT, Nat.reduceLeDiff, Nat.reduceBEq, reduceIte, e2, hk, hck, hp, T3, T5, T30, T38, T57] <;> rfl))
    | (apply R_grd
       · (simp only [yieldedA, RY, Nat.reduceEqDiff, reduceIte, e2, hk, hck, hp, T3, T5, T30, T38, T57] <;> rfl)))
  have hbl : (b.take 300).length ≤ 300 := by simp; omega
  generalize b.take 300 = b at b2 hbl
  refine W_loopK [1, 2, 5, 18, 19, 20, 21, 22, 25, 26, 27, 28, 29, 30] [h.nx] (fun i e1 h1 => e1 6 = iv i ∧ h1.obj (h.nx + 1) = some (.row .rw 1 (b8 (List.replicate i 0#8 ++ k.drop i))) ∧ Fr (h.nx + 1) (newRowH h .rw 1 (b8 k)) h1) 16 (by decide) ?_ ?_ ?_
  · exact ⟨by (try simp only [List.map_cons, List.map_nil, RH, Nat.reduceAdd, Nat.reduceEqDiff, reduceIte, ev_tmp, ev_const, lit_iv, lit_w8, lit_w32, lit_w64, envOf0, envOf1, envOf2, envOf3, envOf4, envOf5, T3, T5, T30, T38, T57]), by simp [RH], by (repeat (first | assumption | exact Fr.refl _ _ | refine Fr.new ?_ ?_ _ _ _ | refine Fr.put ?_ ?_ _ | omega | (simp only [RH]; omega)))⟩
  · intro i hi e1 h1 hK hO hN ⟨j6, o1, F1⟩
    have c1 : (h.nx = h.nx + 1) = False := eq_false (by omega)
    simp only [List.map_cons, List.map_nil, List.cons.injEq, and_true, RH, Nat.reduceAdd, Nat.reduceEqDiff, reduceIte, envOf0, envOf1, envOf2, envOf3, envOf4, envOf5, c1] at hK
    obtain ⟨K0_1, K0_2, K0_5, K0_18, K0_19, K0_20, K0_21, K0_22, K0_25, K0_26, K0_27, K0_28, K0_29, K0_30⟩ := hK
    simp only [List.map_cons, List.map_nil, List.cons.injEq, and_true, RH, Nat.reduceAdd, Nat.reduceEqDiff, reduceIte, envOf0, envOf1, envOf2, envOf3, envOf4, envOf5, c1] at hO
    have O0_0 := hO
    try simp only [RH] at hN
    have hl : (List.replicate i 0#8 ++ k.drop i).length = 32 := by simp; omega
    have hs := put0_set (k := k) (i := i) (by omega) _ rfl
    have hi32 : i < 32 := by omega
    repeat (first
      | refine R_seq ?_ | refine R_region ?_ | refine R_nil ?_ | refine Q_seq ?_ | refine Q_norm ?_ | refine Q_seqr ?_ | refine Q_seqx ?_ | refine Q_bl ?_ | refine Q_blr ?_ | refine Q_blx ?_ | refine Q_blo rfl ?_ | refine R_block ?_ | refine R_skip ?_ | refine R_exit ?_ | refine R_ret ?_ | refine I_true ?_ | refine I_false ?_ | refine N_exit ?_ | refine N_ret ?_
      | ((first | apply R_op | apply R_op0)
         · (first | (simp (maxDischargeDepth := 9) only [RA, Nat.reduceEqDiff, Nat.reduceLT, Nat.reduceLeDiff, Nat.reduceAdd, Nat.reduceSub, Nat.reduceMul, Nat.reduceDiv, Nat.reduceMod, Nat.reducePow, Nat.reduceBEq, Nat.reduceGT, reduceIte, j6, hi, hi32, o1, hl, hs, T3, T5, T30, T38, T57, K0_1, K0_2, K0_5, K0_18, K0_19, K0_20, K0_21, K0_22, K0_25, K0_26, K0_27, K0_28, K0_29, K0_30, O0_0] <;> rfl) | ((repeat (first | (simp (maxDischargeDepth := 9) only [RA, Nat.reduceEqDiff, Nat.reduceLT, Nat.reduceLeDiff, Nat.reduceAdd, Nat.reduceSub, Nat.reduceMul, Nat.reduceDiv, Nat.reduceMod, Nat.reducePow, Nat.reduceBEq, Nat.reduceGT, reduceIte, j6, hi, hi32, o1, hl, hs, T3, T5, T30, T38, T57, K0_1, K0_2, K0_5, K0_18, K0_19, K0_20, K0_21, K0_22, K0_25, K0_26, K0_27, K0_28, K0_29, K0_30, O0_0]; done) | simp (maxDischargeDepth := 9) only [RA, Nat.reduceEqDiff, Nat.reduceLT, Nat.reduceLeDiff, Nat.reduceAdd, Nat.reduceSub, Nat.reduceMul, Nat.reduceDiv, Nat.reduceMod, Nat.reducePow, Nat.reduceBEq, Nat.reduceGT, reduceIte, j6, hi, hi32, o1, hl, hs, T3, T5, T30, T38, T57, K0_1, K0_2, K0_5, K0_18, K0_19, K0_20, K0_21, K0_22, K0_25, K0_26, K0_27, K0_28, K0_29, K0_30, O0_0] | simp (disch := first | assumption | omega) only [RV, j6, hi, hi32, o1, hl, hs, T3, T5, T30, T38, T57, K0_1, K0_2, K0_5, K0_18, K0_19, K0_20, K0_21, K0_22, K0_25, K0_26, K0_27, K0_28, K0_29, K0_30, O0_0])) <;> rfl)))
      | (apply R_cond
         · (simp only [RE, Nat.reduceEqDiff, Nat.reduceLT, Nat.reduceLeDiff, Nat.reduceBEq, reduceIte, j6, hi, hi32, o1, hl, hs, T3, T5, T30, T38, T57, K0_1, K0_2, K0_5, K0_18, K0_19, K0_20, K0_21, K0_22, K0_25, K0_26, K0_27, K0_28, K0_29, K0_30, O0_0] <;> rfl))
      | (apply R_grd
         · (simp only [yieldedA, RY, Nat.reduceEqDiff, reduceIte, j6, hi, hi32, o1, hl, hs, T3, T5, T30, T38, T57, K0_1, K0_2, K0_5, K0_18, K0_19, K0_20, K0_21, K0_22, K0_25, K0_26, K0_27, K0_28, K0_29, K0_30, O0_0] <;> rfl)))
    refine ⟨rfl, by first | rfl | simp only [List.map_cons, List.map_nil, RH, Nat.reduceAdd, Nat.reduceEqDiff, reduceIte, c1, T3, T5, T30, T38, T57, K0_1, K0_2, K0_5, K0_18, K0_19, K0_20, K0_21, K0_22, K0_25, K0_26, K0_27, K0_28, K0_29, K0_30, O0_0], by first | rfl | simp only [List.map_cons, List.map_nil, RH, Nat.reduceAdd, Nat.reduceEqDiff, reduceIte, c1, T3, T5, T30, T38, T57, K0_1, K0_2, K0_5, K0_18, K0_19, K0_20, K0_21, K0_22, K0_25, K0_26, K0_27, K0_28, K0_29, K0_30, O0_0], by first | (simp only [RH, c1, T3, T5, T30, T38, T57, K0_1, K0_2, K0_5, K0_18, K0_19, K0_20, K0_21, K0_22, K0_25, K0_26, K0_27, K0_28, K0_29, K0_30, O0_0]; done) | ((try simp only [RH, c1, T3, T5, T30, T38, T57, K0_1, K0_2, K0_5, K0_18, K0_19, K0_20, K0_21, K0_22, K0_25, K0_26, K0_27, K0_28, K0_29, K0_30, O0_0]); omega), ?_⟩
    exact ⟨by (try simp only [List.map_cons, List.map_nil, RH, Nat.reduceAdd, Nat.reduceEqDiff, reduceIte, ev_tmp, ev_const, lit_iv, lit_w8, lit_w32, lit_w64, envOf0, envOf1, envOf2, envOf3, envOf4, envOf5, T3, T5, T30, T38, T57, K0_1, K0_2, K0_5, K0_18, K0_19, K0_20, K0_21, K0_22, K0_25, K0_26, K0_27, K0_28, K0_29, K0_30, O0_0]), by simp [RH], by (repeat (first | assumption | exact Fr.refl _ _ | refine Fr.new ?_ ?_ _ _ _ | refine Fr.put ?_ ?_ _ | omega | (simp only [RH]; omega)))⟩
  · intro e1 h1 hK hO hN ⟨j6, o1, F1⟩
    have c1 : (h.nx = h.nx + 1) = False := eq_false (by omega)
    simp only [List.map_cons, List.map_nil, List.cons.injEq, and_true, RH, Nat.reduceAdd, Nat.reduceEqDiff, reduceIte, envOf0, envOf1, envOf2, envOf3, envOf4, envOf5, c1] at hK
    obtain ⟨K0_1, K0_2, K0_5, K0_18, K0_19, K0_20, K0_21, K0_22, K0_25, K0_26, K0_27, K0_28, K0_29, K0_30⟩ := hK
    simp only [List.map_cons, List.map_nil, List.cons.injEq, and_true, RH, Nat.reduceAdd, Nat.reduceEqDiff, reduceIte, envOf0, envOf1, envOf2, envOf3, envOf4, envOf5, c1] at hO
    have O0_0 := hO
    try simp only [RH] at hN
    have hz : (List.replicate 16 0#8 ++ k.drop 16).length = 32 := by simp; omega
    have hr := clampB_zero (k := List.replicate 16 0#8 ++ k.drop 16) (fun i hi => by
      rw [List.getD_eq_getElem?_getD, List.getElem?_append_left (by simpa using hi), List.getElem?_replicate, if_pos hi]; rfl)
    have hzt := polyT_r0 b hz (by rw [hr]; exact leN_zeros 16)
    have hzd : (List.replicate 16 0#8 ++ k.drop 16).drop 16 = k.drop 16 := by
      rw [List.drop_append_of_le_length (by simp), List.drop_of_length_le (by simp), List.nil_append]
    rw [hzd] at hzt
    have b21 := b2.fr0 (F1.le (by simp only [RH]; exact Nat.le_refl _))
    generalize List.replicate 16 0#8 ++ k.drop 16 = z at o1 hz hzt
    have hn1 : h.nx + 2 ≤ h1.nx := by simpa [RH] using hN
    repeat (first
      | refine R_seq ?_ | refine R_region ?_ | refine R_nil ?_ | refine Q_seq ?_ | refine Q_norm ?_ | refine Q_seqr ?_ | refine Q_seqx ?_ | refine Q_bl ?_ | refine Q_blr ?_ | refine Q_blx ?_ | refine Q_blo rfl ?_ | refine R_block ?_ | refine R_skip ?_ | refine R_exit ?_ | refine R_ret ?_ | refine I_true ?_ | refine I_false ?_ | refine N_exit ?_ | refine N_ret ?_
      | ((first | apply R_op | apply R_op0)
         · (first | (simp (maxDischargeDepth := 9) only [RA, Nat.reduceEqDiff, Nat.reduceLT, Nat.reduceLeDiff, Nat.reduceAdd, Nat.reduceSub, Nat.reduceMul, Nat.reduceDiv, Nat.reduceMod, Nat.reducePow, Nat.reduceBEq, Nat.reduceGT, reduceIte, j6, T3, T5, T30, T38, T57, K0_1, K0_2, K0_5, K0_18, K0_19, K0_20, K0_21, K0_22, K0_25, K0_26, K0_27, K0_28, K0_29, K0_30, O0_0] <;> rfl) | ((repeat (first | (simp (maxDischargeDepth := 9) only [RA, Nat.reduceEqDiff, Nat.reduceLT, Nat.reduceLeDiff, Nat.reduceAdd, Nat.reduceSub, Nat.reduceMul, Nat.reduceDiv, Nat.reduceMod, Nat.reducePow, Nat.reduceBEq, Nat.reduceGT, reduceIte, j6, T3, T5, T30, T38, T57, K0_1, K0_2, K0_5, K0_18, K0_19, K0_20, K0_21, K0_22, K0_25, K0_26, K0_27, K0_28, K0_29, K0_30, O0_0]; done) | simp (maxDischargeDepth := 9) only [RA, Nat.reduceEqDiff, Nat.reduceLT, Nat.reduceLeDiff, Nat.reduceAdd, Nat.reduceSub, Nat.reduceMul, Nat.reduceDiv, Nat.reduceMod, Nat.reducePow, Nat.reduceBEq, Nat.reduceGT, reduceIte, j6, T3, T5, T30, T38, T57, K0_1, K0_2, K0_5, K0_18, K0_19, K0_20, K0_21, K0_22, K0_25, K0_26, K0_27, K0_28, K0_29, K0_30, O0_0] | simp (disch := first | assumption | omega) only [RV, j6, T3, T5, T30, T38, T57, K0_1, K0_2, K0_5, K0_18, K0_19, K0_20, K0_21, K0_22, K0_25, K0_26, K0_27, K0_28, K0_29, K0_30, O0_0])) <;> rfl)))
      | (apply R_cond
         · (simp only [RE, Nat.reduceEqDiff, Nat.reduceLT, Nat.reduceLeDiff, Nat.reduceBEq, reduceIte, j6, T3, T5, T30, T38, T57, K0_1, K0_2, K0_5, K0_18, K0_19, K0_20, K0_21, K0_22, K0_25, K0_26, K0_27, K0_28, K0_29, K0_30, O0_0] <;> rfl))
      | (apply R_grd
         · (simp only [yieldedA, RY, Nat.reduceEqDiff, reduceIte, j6, T3, T5, T30, T38, T57, K0_1, K0_2, K0_5, K0_18, K0_19, K0_20, K0_21, K0_22, K0_25, K0_26, K0_27, K0_28, K0_29, K0_30, O0_0] <;> rfl)))
    have hS0 : h.nx < h1.nx := by omega
    have hS1 : h.nx + 1 < h1.nx := by omega
    refine D_draw [0, 2, 3, 4, 5, 9, 11, 12, 13] (fun r => r < h1.nx) (by kernel_rfl) ?_
    repeat (first
      | refine D_nil ?_ | refine I_true ?_ | refine I_false ?_
      | ((first | apply D_op | apply D_op0)
         · (first | (simp (maxDischargeDepth := 9) only [RA, Nat.reduceEqDiff, Nat.reduceLT, Nat.reduceLeDiff, Nat.reduceAdd, Nat.reduceSub, Nat.reduceMul, Nat.reduceDiv, Nat.reduceMod, Nat.reducePow, Nat.reduceBEq, Nat.reduceGT, reduceIte, live62 1, hS0, hS1, hk, hck, half_ev 10 k hk, T3, T5, T30, T38, T57, K0_1, K0_2, K0_5, K0_18, K0_19, K0_20, K0_21, K0_22, K0_25, K0_26, K0_27, K0_28, K0_29, K0_30, O0_0] <;> rfl) | ((repeat (first | (simp (maxDischargeDepth := 9) only [RA, Nat.reduceEqDiff, Nat.reduceLT, Nat.reduceLeDiff, Nat.reduceAdd, Nat.reduceSub, Nat.reduceMul, Nat.reduceDiv, Nat.reduceMod, Nat.reducePow, Nat.reduceBEq, Nat.reduceGT, reduceIte, live62 1, hS0, hS1, hk, hck, half_ev 10 k hk, T3, T5, T30, T38, T57, K0_1, K0_2, K0_5, K0_18, K0_19, K0_20, K0_21, K0_22, K0_25, K0_26, K0_27, K0_28, K0_29, K0_30, O0_0]; done) | simp (maxDischargeDepth := 9) only [RA, Nat.reduceEqDiff, Nat.reduceLT, Nat.reduceLeDiff, Nat.reduceAdd, Nat.reduceSub, Nat.reduceMul, Nat.reduceDiv, Nat.reduceMod, Nat.reducePow, Nat.reduceBEq, Nat.reduceGT, reduceIte, live62 1, hS0, hS1, hk, hck, half_ev 10 k hk, T3, T5, T30, T38, T57, K0_1, K0_2, K0_5, K0_18, K0_19, K0_20, K0_21, K0_22, K0_25, K0_26, K0_27, K0_28, K0_29, K0_30, O0_0] | simp (disch := first | assumption | omega) only [RV, live62 1, hS0, hS1, hk, hck, half_ev 10 k hk, T3, T5, T30, T38, T57, K0_1, K0_2, K0_5, K0_18, K0_19, K0_20, K0_21, K0_22, K0_25, K0_26, K0_27, K0_28, K0_29, K0_30, O0_0])) <;> rfl))
         · (intro hF; first | exact chk_pure rfl | exact chk_alloc rfl | exact chk_read rfl | exact chk_iso iso61 | exact chk_call iso61 (fun _ _ _ => rfl) | exact chk_iso iso62 | exact chk_call iso62 (fun _ _ _ => rfl) | exact chk_iso iso63 | exact chk_call iso63 (fun _ _ _ => rfl) | exact chk_iso iso67 | exact chk_call iso67 (fun _ _ _ => rfl) | (exfalso; revert hF; decide) | ((first | refine chk_load ?_ | refine chk_slice ?_ | refine chk_convert ?_ | refine chk_store ?_ | refine chk_call (by kernel_rfl) ?_); simp only [eq_self, ev_tmp, upd_apply, rowsOfV, List.mem_cons, List.not_mem_nil, or_false, forall_eq, forall_eq_or_imp, obj_put, obj_new, nx_new, nx_put, Nat.reduceEqDiff, if_true, if_false, reduceIte, implies_true, and_self, and_true, true_or, or_true, live62 1, hS0, hS1, hk, hck, half_ev 10 k hk, T3, T5, T30, T38, T57, K0_1, K0_2, K0_5, K0_18, K0_19, K0_20, K0_21, K0_22, K0_25, K0_26, K0_27, K0_28, K0_29, K0_30, O0_0])))
      | (apply D_grd
         · (simp only [yieldedA, RY, Nat.reduceEqDiff, reduceIte, live62 1, hS0, hS1, hk, hck, half_ev 10 k hk, T3, T5, T30, T38, T57, K0_1, K0_2, K0_5, K0_18, K0_19, K0_20, K0_21, K0_22, K0_25, K0_26, K0_27, K0_28, K0_29, K0_30, O0_0] <;> rfl)))
    have hl16 : ((k.drop 16).take 16).length = 16 := by simp; omega
    refine D_fn ?_ (sum63 4 h1 k hk (.slice none 0 0) [] .nil (by simp)) iso63 (fun v4 h4 hp _ r _ hr => hp.2.2 r hr) ?_
    · rfl
    intro v3 h3 ⟨hv3, F3⟩
    subst hv3
    rw [polyT_nil hk]
    have n3 := F3.1
    have q0 := F3.2 h.nx (by omega)
    rw [O0_0] at q0
    have q1 := F3.2 (h.nx + 1) (by omega)
    rw [o1] at q1
    repeat (first
      | refine D_nil ?_ | refine I_true ?_ | refine I_false ?_
      | ((first | apply D_op | apply D_op0)
         · (first | (simp (maxDischargeDepth := 9) only [RA, Nat.reduceEqDiff, Nat.reduceLT, Nat.reduceLeDiff, Nat.reduceAdd, Nat.reduceSub, Nat.reduceMul, Nat.reduceDiv, Nat.reduceMod, Nat.reducePow, Nat.reduceBEq, Nat.reduceGT, reduceIte, q0, q1, hS0, hS1, hck, cut8 hz, half_ev 10 k hk, beq57 hl16 hl16, T3, T5, T30, T38, T57, K0_1, K0_2, K0_5, K0_18, K0_19, K0_20, K0_21, K0_22, K0_25, K0_26, K0_27, K0_28, K0_29, K0_30, O0_0] <;> rfl) | ((repeat (first | (simp (maxDischargeDepth := 9) only [RA, Nat.reduceEqDiff, Nat.reduceLT, Nat.reduceLeDiff, Nat.reduceAdd, Nat.reduceSub, Nat.reduceMul, Nat.reduceDiv, Nat.reduceMod, Nat.reducePow, Nat.reduceBEq, Nat.reduceGT, reduceIte, q0, q1, hS0, hS1, hck, cut8 hz, half_ev 10 k hk, beq57 hl16 hl16, T3, T5, T30, T38, T57, K0_1, K0_2, K0_5, K0_18, K0_19, K0_20, K0_21, K0_22, K0_25, K0_26, K0_27, K0_28, K0_29, K0_30, O0_0]; done) | simp (maxDischargeDepth := 9) only [RA, Nat.reduceEqDiff, Nat.reduceLT, Nat.reduceLeDiff, Nat.reduceAdd, Nat.reduceSub, Nat.reduceMul, Nat.reduceDiv, Nat.reduceMod, Nat.reducePow, Nat.reduceBEq, Nat.reduceGT, reduceIte, q0, q1, hS0, hS1, hck, cut8 hz, half_ev 10 k hk, beq57 hl16 hl16, T3, T5, T30, T38, T57, K0_1, K0_2, K0_5, K0_18, K0_19, K0_20, K0_21, K0_22, K0_25, K0_26, K0_27, K0_28, K0_29, K0_30, O0_0] | simp (disch := first | assumption | omega) only [RV, q0, q1, hS0, hS1, hck, cut8 hz, half_ev 10 k hk, beq57 hl16 hl16, T3, T5, T30, T38, T57, K0_1, K0_2, K0_5, K0_18, K0_19, K0_20, K0_21, K0_22, K0_25, K0_26, K0_27, K0_28, K0_29, K0_30, O0_0])) <;> rfl))
         · (intro hF; first | exact chk_pure rfl | exact chk_alloc rfl | exact chk_read rfl | exact chk_iso iso61 | exact chk_call iso61 (fun _ _ _ => rfl) | exact chk_iso iso62 | exact chk_call iso62 (fun _ _ _ => rfl) | exact chk_iso iso63 | exact chk_call iso63 (fun _ _ _ => rfl) | exact chk_iso iso67 | exact chk_call iso67 (fun _ _ _ => rfl) | (exfalso; revert hF; decide) | ((first | refine chk_load ?_ | refine chk_slice ?_ | refine chk_convert ?_ | refine chk_store ?_ | refine chk_call (by kernel_rfl) ?_); simp only [eq_self, ev_tmp, upd_apply, rowsOfV, List.mem_cons, List.not_mem_nil, or_false, forall_eq, forall_eq_or_imp, obj_put, obj_new, nx_new, nx_put, Nat.reduceEqDiff, if_true, if_false, reduceIte, implies_true, and_self, and_true, true_or, or_true, q0, q1, hS0, hS1, hck, cut8 hz, half_ev 10 k hk, beq57 hl16 hl16, T3, T5, T30, T38, T57, K0_1, K0_2, K0_5, K0_18, K0_19, K0_20, K0_21, K0_22, K0_25, K0_26, K0_27, K0_28, K0_29, K0_30, O0_0])))
      | (apply D_grd
         · (simp only [yieldedA, RY, Nat.reduceEqDiff, reduceIte, q0, q1, hS0, hS1, hck, cut8 hz, half_ev 10 k hk, beq57 hl16 hl16, T3, T5, T30, T38, T57, K0_1, K0_2, K0_5, K0_18, K0_19, K0_20, K0_21, K0_22, K0_25, K0_26, K0_27, K0_28, K0_29, K0_30, O0_0] <;> rfl)))
    refine D_fn ?_ (sum63 4 h3 z hz v2 b (b21.fr0 F3) (by omega)) iso63 (fun v4 h4 hp _ r _ hr => hp.2.2 r (by omega)) ?_
    · rfl
    intro v4 h4 ⟨hv4, F4⟩
    subst hv4
    rw [hzt]
    have q2 := F4.2 h.nx (by omega)
    rw [q0] at q2
    repeat (first
      | refine D_nil ?_ | refine I_true ?_ | refine I_false ?_
      | ((first | apply D_op | apply D_op0)
         · (first | (simp (maxDischargeDepth := 9) only [RA, Nat.reduceEqDiff, Nat.reduceLT, Nat.reduceLeDiff, Nat.reduceAdd, Nat.reduceSub, Nat.reduceMul, Nat.reduceDiv, Nat.reduceMod, Nat.reducePow, Nat.reduceBEq, Nat.reduceGT, reduceIte, q2, hS0, hck, half_ev 10 k hk, beq57 hl16 hl16, T3, T5, T30, T38, T57, K0_1, K0_2, K0_5, K0_18, K0_19, K0_20, K0_21, K0_22, K0_25, K0_26, K0_27, K0_28, K0_29, K0_30, O0_0] <;> rfl) | ((repeat (first | (simp (maxDischargeDepth := 9) only [RA, Nat.reduceEqDiff, Nat.reduceLT, Nat.reduceLeDiff, Nat.reduceAdd, Nat.reduceSub, Nat.reduceMul, Nat.reduceDiv, Nat.reduceMod, Nat.reducePow, Nat.reduceBEq, Nat.reduceGT, reduceIte, q2, hS0, hck, half_ev 10 k hk, beq57 hl16 hl16, T3, T5, T30, T38, T57, K0_1, K0_2, K0_5, K0_18, K0_19, K0_20, K0_21, K0_22, K0_25, K0_26, K0_27, K0_28, K0_29, K0_30, O0_0]; done) | simp (maxDischargeDepth := 9) only [RA, Nat.reduceEqDiff, Nat.reduceLT, Nat.reduceLeDiff, Nat.reduceAdd, Nat.reduceSub, Nat.reduceMul, Nat.reduceDiv, Nat.reduceMod, Nat.reducePow, Nat.reduceBEq, Nat.reduceGT, reduceIte, q2, hS0, hck, half_ev 10 k hk, beq57 hl16 hl16, T3, T5, T30, T38, T57, K0_1, K0_2, K0_5, K0_18, K0_19, K0_20, K0_21, K0_22, K0_25, K0_26, K0_27, K0_28, K0_29, K0_30, O0_0] | simp (disch := first | assumption | omega) only [RV, q2, hS0, hck, half_ev 10 k hk, beq57 hl16 hl16, T3, T5, T30, T38, T57, K0_1, K0_2, K0_5, K0_18, K0_19, K0_20, K0_21, K0_22, K0_25, K0_26, K0_27, K0_28, K0_29, K0_30, O0_0])) <;> rfl))
         · (intro hF; first | exact chk_pure rfl | exact chk_alloc rfl | exact chk_read rfl | exact chk_iso iso61 | exact chk_call iso61 (fun _ _ _ => rfl) | exact chk_iso iso62 | exact chk_call iso62 (fun _ _ _ => rfl) | exact chk_iso iso63 | exact chk_call iso63 (fun _ _ _ => rfl) | exact chk_iso iso67 | exact chk_call iso67 (fun _ _ _ => rfl) | (exfalso; revert hF; decide) | ((first | refine chk_load ?_ | refine chk_slice ?_ | refine chk_convert ?_ | refine chk_store ?_ | refine chk_call (by kernel_rfl) ?_); simp only [eq_self, ev_tmp, upd_apply, rowsOfV, List.mem_cons, List.not_mem_nil, or_false, forall_eq, forall_eq_or_imp, obj_put, obj_new, nx_new, nx_put, Nat.reduceEqDiff, if_true, if_false, reduceIte, implies_true, and_self, and_true, true_or, or_true, q2, hS0, hck, half_ev 10 k hk, beq57 hl16 hl16, T3, T5, T30, T38, T57, K0_1, K0_2, K0_5, K0_18, K0_19, K0_20, K0_21, K0_22, K0_25, K0_26, K0_27, K0_28, K0_29, K0_30, O0_0])))
      | (apply D_grd
         · (simp only [yieldedA, RY, Nat.reduceEqDiff, reduceIte, q2, hS0, hck, half_ev 10 k hk, beq57 hl16 hl16, T3, T5, T30, T38, T57, K0_1, K0_2, K0_5, K0_18, K0_19, K0_20, K0_21, K0_22, K0_25, K0_26, K0_27, K0_28, K0_29, K0_30, O0_0] <;> rfl)))
    repeat (first
      | refine R_seq ?_ | refine R_region ?_ | refine R_nil ?_ | refine Q_seq ?_ | refine Q_norm ?_ | refine Q_seqr ?_ | refine Q_seqx ?_ | refine Q_bl ?_ | refine Q_blr ?_ | refine Q_blx ?_ | refine Q_blo rfl ?_ | refine R_block ?_ | refine R_skip ?_ | refine R_exit ?_ | refine R_ret ?_ | refine I_true ?_ | refine I_false ?_ | refine N_exit ?_ | refine N_ret ?_
      | ((first | apply R_op | apply R_op0)
         · (first | (simp (maxDischargeDepth := 9) only [RA, Nat.reduceEqDiff, Nat.reduceLT, Nat.reduceLeDiff, Nat.reduceAdd, Nat.reduceSub, Nat.reduceMul, Nat.reduceDiv, Nat.reduceMod, Nat.reducePow, Nat.reduceBEq, Nat.reduceGT, reduceIte, T3, T5, T30, T38, T57, K0_1, K0_2, K0_5, K0_18, K0_19, K0_20, K0_21, K0_22, K0_25, K0_26, K0_27, K0_28, K0_29, K0_30, O0_0] <;> rfl) | ((repeat (first | (simp (maxDischargeDepth := 9) only [RA, Nat.reduceEqDiff, Nat.reduceLT, Nat.reduceLeDiff, Nat.reduceAdd, Nat.reduceSub, Nat.reduceMul, Nat.reduceDiv, Nat.reduceMod, Nat.reducePow, Nat.reduceBEq, Nat.reduceGT, reduceIte, T3, T5, T30, T38, T57, K0_1, K0_2, K0_5, K0_18, K0_19, K0_20, K0_21, K0_22, K0_25, K0_26, K0_27, K0_28, K0_29, K0_30, O0_0]; done) | simp (maxDischargeDepth := 9) only [RA, Nat.reduceEqDiff, Nat.reduceLT, Nat.reduceLeDiff, Nat.reduceAdd, Nat.reduceSub, Nat.reduceMul, Nat.reduceDiv, Nat.reduceMod, Nat.reducePow, Nat.reduceBEq, Nat.reduceGT, reduceIte, T3, T5, T30, T38, T57, K0_1, K0_2, K0_5, K0_18, K0_19, K0_20, K0_21, K0_22, K0_25, K0_26, K0_27, K0_28, K0_29, K0_30, O0_0] | simp (disch := first | assumption | omega) only [RV, T3, T5, T30, T38, T57, K0_1, K0_2, K0_5, K0_18, K0_19, K0_20, K0_21, K0_22, K0_25, K0_26, K0_27, K0_28, K0_29, K0_30, O0_0])) <;> rfl)))
      | (apply R_cond
         · (simp only [RE, Nat.reduceEqDiff, Nat.reduceLT, Nat.reduceLeDiff, Nat.reduceBEq, reduceIte, T3, T5, T30, T38, T57, K0_1, K0_2, K0_5, K0_18, K0_19, K0_20, K0_21, K0_22, K0_25, K0_26, K0_27, K0_28, K0_29, K0_30, O0_0] <;> rfl))
      | (apply R_grd
         · (simp only [yieldedA, RY, Nat.reduceEqDiff, reduceIte, T3, T5, T30, T38, T57, K0_1, K0_2, K0_5, K0_18, K0_19, K0_20, K0_21, K0_22, K0_25, K0_26, K0_27, K0_28, K0_29, K0_30, O0_0] <;> rfl)))
    (first | refine ⟨.inr rfl, _, rfl, ?_⟩ | refine ⟨.inl rfl, _, rfl, ?_⟩) <;> simp only [packR, upd_apply, Nat.reduceEqDiff, if_true, if_false, reduceIte]
theorem wl20 (h : Heap) (avs : List Value) (ty : TyVs Try.prog 8 h [30, 38] avs) : ∃ v h', evF (cfg0 Try.prog) 13 20 avs h = some (.ok v, h') ∧ v = .bool true := by
  match avs, ty with
  | [u, w], ⟨s0, s1, _⟩ =>
    obtain ⟨k, hk, rfl⟩ := tyv30 s0
    obtain ⟨ys, hc, _⟩ := tyv38 s1
    exact law20 h k hk w ys hc
end Go.Proofs.Ytfehhihllenjiaa
