/- Tags: laws still. -/
import Derived.Test.YtfehhihllenjiaaJh
set_option linter.all false
namespace Go.Proofs.Ytfehhihllenjiaa
open Go.Proofs
attribute [local irreducible] evOps iter evD evF evC evLoad evStore evAlloc evIndexAddr evIndex evLenB evBox evBin evUn evConvert evExtract evSlice evAppend evCopy evNil evBuild evMakeSlice evBuildSlice evBuiltin Program.underlying
attribute [local irreducible] sumS turnB keyS padK hmacS turnR catN expT expO expS key1
set_option maxRecDepth 20000 in
set_option maxHeartbeats 8000000 in
theorem law32 (h : Heap) (key : List (BitVec 8)) (hk : key.length = 32) (w : Value) (b : List (BitVec 8)) (hb : By h w b) (z : Value) (hz : (∃ n, n < 9223372036854775808 ∧ z = iv n) ∨ ∃ n, 0 < n ∧ z = nv n) : ∃ v1 h1, evF (cfg0 Try.prog) 12 32 [.agg ⟨b8 key⟩, w, z] h = some (.ok v1, h1) ∧ v1 = .bool true := by
  rw [evF_eq Try.func32 rfl]
  apply evEnd_of_W
  simp only [Try.f32]
  have hck := fun (kd : Kind) (es : Nat) => cut8 (k := kd) (es := es) hk
  obtain ⟨H, hH⟩ : ∃ H, H = newRowH h .rw 1 (b8 key) := ⟨_, rfl⟩
  obtain ⟨v2, e2, b2, r2⟩ := few69 10 (newRowH h .rw 1 (b8 key)) w b 100 (hb.fr0 (by (repeat (first | assumption | exact Fr.refl _ _ | refine Fr.new ?_ ?_ _ _ _ | refine Fr.put ?_ ?_ _ | omega | (simp only [RH]; omega)))))
  have o0 : H.obj h.nx = some (.row .rw 1 (b8 key)) := by rw [hH]; simp [RH]
  have n0 : h.nx < H.nx := by rw [hH]; simp [RH]
  have hbl : (b.take 100).length ≤ 100 := by simp; omega
  rw [← hH] at b2
  generalize b.take 100 = b at b2 hbl
  rcases hz with ⟨n, hn, rfl⟩ | ⟨n, hn, rfl⟩
  · by_cases h300 : n ≤ 300
    · have h1 : ¬ 300 < n := by omega
      repeat (first
        | refine R_seq ?_ | refine R_region ?_ | refine R_nil ?_ | refine Q_seq ?_ | refine Q_norm ?_ | refine Q_seqr ?_ | refine Q_seqx ?_ | refine Q_bl ?_ | refine Q_blr ?_ | refine Q_blx ?_ | refine Q_blo rfl ?_ | refine R_block ?_ | refine R_skip ?_ | refine R_exit ?_ | refine R_ret ?_ | refine I_true ?_ | refine I_false ?_ | refine N_exit ?_ | refine N_ret ?_
        | ((first | apply R_op | apply R_op0)
           · (first | (simp (maxDischargeDepth := 9) only [RA, Nat.reduceEqDiff, Nat.reduceLT, Nat.reduceLeDiff, Nat.reduceAdd, Nat.reduceSub, Nat.reduceMul, Nat.reduceDiv, Nat.reduceMod, Nat.reducePow, Nat.reduceBEq, Nat.reduceGT, reduceIte, e2, hk, hck, h1, T1, T3, T9, T30, T38, T66] <;> rfl) | ((repeat (first | (simp (maxDischargeDepth := 9) only [RA, Nat.reduceEqDiff, Nat.reduceLT, Nat.reduceLeDiff, Nat.reduceAdd, Nat.reduceSub, Nat.reduceMul, Nat.reduceDiv, Nat.reduceMod, Nat.reducePow, Nat.reduceBEq, Nat.reduceGT, reduceIte, e2, hk, hck, h1, T1, T3, T9, T30, T38, T66]; done) | simp (maxDischargeDepth := 9) only [RA, Nat.reduceEqDiff, Nat.reduceLT, Nat.reduceLeDiff, Nat.reduceAdd, Nat.reduceSub, Nat.reduceMul, Nat.reduceDiv, Nat.reduceMod, Nat.reducePow, Nat.reduceBEq, Nat.reduceGT, reduceIte, e2, hk, hck, h1, T1, T3, T9, T30, T38, T66] | simp (disch := first | assumption | omega) only [RV, e2, hk, hck, h1, T1, T3, T9, T30, T38, T66])) <;> rfl)))
        | (apply R_cond
           · (simp only [RE, Nat.reduceEqDiff, Nat.reduceLT, Nat.reduceLeDiff, Nat.reduceBEq, reduceIte, e2, hk, hck, h1, T1, T3, T9, T30, T38, T66] <;> rfl))
        | (apply R_grd
           · (simp only [yieldedA, RY, Nat.reduceEqDiff, reduceIte, e2, hk, hck, h1, T1, T3, T9, T30, T38, T66] <;> rfl)))
      rw [← hH]
      clear hH
      refine R_fn ?_ (exp72 1 H key v2 b n hk b2 (by omega) (by omega)) ?_
      · rfl
      intro v3 h3 ⟨⟨u3, hv3, b3⟩, F3⟩
      subst hv3
      have o3 := F3.2 h.nx n0
      rw [o0] at o3
      repeat (first
        | refine R_seq ?_ | refine R_region ?_ | refine R_nil ?_ | refine Q_seq ?_ | refine Q_norm ?_ | refine Q_seqr ?_ | refine Q_seqx ?_ | refine Q_bl ?_ | refine Q_blr ?_ | refine Q_blx ?_ | refine Q_blo rfl ?_ | refine R_block ?_ | refine R_skip ?_ | refine R_exit ?_ | refine R_ret ?_ | refine I_true ?_ | refine I_false ?_ | refine N_exit ?_ | refine N_ret ?_
        | ((first | apply R_op | apply R_op0)
           · (first | (simp (maxDischargeDepth := 9) only [RA, Nat.reduceEqDiff, Nat.reduceLT, Nat.reduceLeDiff, Nat.reduceAdd, Nat.reduceSub, Nat.reduceMul, Nat.reduceDiv, Nat.reduceMod, Nat.reducePow, Nat.reduceBEq, Nat.reduceGT, reduceIte, o3, hck, T1, T3, T9, T30, T38, T66] <;> rfl) | ((repeat (first | (simp (maxDischargeDepth := 9) only [RA, Nat.reduceEqDiff, Nat.reduceLT, Nat.reduceLeDiff, Nat.reduceAdd, Nat.reduceSub, Nat.reduceMul, Nat.reduceDiv, Nat.reduceMod, Nat.reducePow, Nat.reduceBEq, Nat.reduceGT, reduceIte, o3, hck, T1, T3, T9, T30, T38, T66]; done) | simp (maxDischargeDepth := 9) only [RA, Nat.reduceEqDiff, Nat.reduceLT, Nat.reduceLeDiff, Nat.reduceAdd, Nat.reduceSub, Nat.reduceMul, Nat.reduceDiv, Nat.reduceMod, Nat.reducePow, Nat.reduceBEq, Nat.reduceGT, reduceIte, o3, hck, T1, T3, T9, T30, T38, T66] | simp (disch := first | assumption | omega) only [RV, o3, hck, T1, T3, T9, T30, T38, T66])) <;> rfl)))
        | (apply R_cond
           · (simp only [RE, Nat.reduceEqDiff, Nat.reduceLT, Nat.reduceLeDiff, Nat.reduceBEq, reduceIte, o3, hck, T1, T3, T9, T30, T38, T66] <;> rfl))
        | (apply R_grd
           · (simp only [yieldedA, RY, Nat.reduceEqDiff, reduceIte, o3, hck, T1, T3, T9, T30, T38, T66] <;> rfl)))
      refine R_fn ?_ (exp74 3 h3 key v2 b n hk (b2.fr0 F3) (by omega) (by omega)) ?_
      · rfl
      intro v4 h4 ⟨⟨u4, hv4, b4⟩, F4⟩
      subst hv4
      have b34 : By h4 u3 _ := b3.fr0 F4
      have o4 := F4.2 h.nx (by have := F3.1; omega)
      rw [o3] at o4
      have b24 : By h4 v2 b := (b2.fr0 F3).fr0 F4
      have n4 : h.nx < h4.nx := by have := F3.1; have := F4.1; omega
      have bk4 : By h4 (.slice (some ⟨h.nx, 0, none⟩) 32 32) key := by_row (k := .rw) n4 o4 (Nat.le_refl _) hk
      repeat (first
        | refine R_seq ?_ | refine R_region ?_ | refine R_nil ?_ | refine Q_seq ?_ | refine Q_norm ?_ | refine Q_seqr ?_ | refine Q_seqx ?_ | refine Q_bl ?_ | refine Q_blr ?_ | refine Q_blx ?_ | refine Q_blo rfl ?_ | refine R_block ?_ | refine R_skip ?_ | refine R_exit ?_ | refine R_ret ?_ | refine I_true ?_ | refine I_false ?_ | refine N_exit ?_ | refine N_ret ?_
        | ((first | apply R_op | apply R_op0)
           · (first | (simp (maxDischargeDepth := 9) only [RA, Nat.reduceEqDiff, Nat.reduceLT, Nat.reduceLeDiff, Nat.reduceAdd, Nat.reduceSub, Nat.reduceMul, Nat.reduceDiv, Nat.reduceMod, Nat.reducePow, Nat.reduceBEq, Nat.reduceGT, reduceIte, T1, T3, T9, T30, T38, T66] <;> rfl) | ((repeat (first | (simp (maxDischargeDepth := 9) only [RA, Nat.reduceEqDiff, Nat.reduceLT, Nat.reduceLeDiff, Nat.reduceAdd, Nat.reduceSub, Nat.reduceMul, Nat.reduceDiv, Nat.reduceMod, Nat.reducePow, Nat.reduceBEq, Nat.reduceGT, reduceIte, T1, T3, T9, T30, T38, T66]; done) | simp (maxDischargeDepth := 9) only [RA, Nat.reduceEqDiff, Nat.reduceLT, Nat.reduceLeDiff, Nat.reduceAdd, Nat.reduceSub, Nat.reduceMul, Nat.reduceDiv, Nat.reduceMod, Nat.reducePow, Nat.reduceBEq, Nat.reduceGT, reduceIte, T1, T3, T9, T30, T38, T66] | simp (disch := first | assumption | omega) only [RV, T1, T3, T9, T30, T38, T66])) <;> rfl)))
        | (apply R_cond
           · (simp only [RE, Nat.reduceEqDiff, Nat.reduceLT, Nat.reduceLeDiff, Nat.reduceBEq, reduceIte, T1, T3, T9, T30, T38, T66] <;> rfl))
        | (apply R_grd
           · (simp only [yieldedA, RY, Nat.reduceEqDiff, reduceIte, T1, T3, T9, T30, T38, T66] <;> rfl)))
      refine D_draw [0, 3, 5, 15, 16, 18, 19] (fun _ => True) (by kernel_rfl) ?_
      repeat (first
        | refine D_nil ?_ | refine I_true ?_ | refine I_false ?_
        | ((first | apply D_op | apply D_op0)
           · (first | (simp (maxDischargeDepth := 9) only [RA, Nat.reduceEqDiff, Nat.reduceLT, Nat.reduceLeDiff, Nat.reduceAdd, Nat.reduceSub, Nat.reduceMul, Nat.reduceDiv, Nat.reduceMod, Nat.reducePow, Nat.reduceBEq, Nat.reduceGT, reduceIte, live70 0, S38str b34, S38str b4, RF, str_eql, T1, T3, T9, T30, T38, T66] <;> rfl) | ((repeat (first | (simp (maxDischargeDepth := 9) only [RA, Nat.reduceEqDiff, Nat.reduceLT, Nat.reduceLeDiff, Nat.reduceAdd, Nat.reduceSub, Nat.reduceMul, Nat.reduceDiv, Nat.reduceMod, Nat.reducePow, Nat.reduceBEq, Nat.reduceGT, reduceIte, live70 0, S38str b34, S38str b4, RF, str_eql, T1, T3, T9, T30, T38, T66]; done) | simp (maxDischargeDepth := 9) only [RA, Nat.reduceEqDiff, Nat.reduceLT, Nat.reduceLeDiff, Nat.reduceAdd, Nat.reduceSub, Nat.reduceMul, Nat.reduceDiv, Nat.reduceMod, Nat.reducePow, Nat.reduceBEq, Nat.reduceGT, reduceIte, live70 0, S38str b34, S38str b4, RF, str_eql, T1, T3, T9, T30, T38, T66] | simp (disch := first | assumption | omega) only [RV, live70 0, S38str b34, S38str b4, RF, str_eql, T1, T3, T9, T30, T38, T66])) <;> rfl))
           · (intro hF; first | exact chk_pure rfl | exact chk_alloc rfl | exact chk_read rfl | exact chk_iso iso69 | exact chk_call iso69 (fun _ _ _ => rfl) | exact chk_iso iso70 | exact chk_call iso70 (fun _ _ _ => rfl) | exact chk_iso iso72 | exact chk_call iso72 (fun _ _ _ => rfl) | exact chk_iso iso74 | exact chk_call iso74 (fun _ _ _ => rfl) | exact chk_iso iso75 | exact chk_call iso75 (fun _ _ _ => rfl) | exact chk_iso iso76 | exact chk_call iso76 (fun _ _ _ => rfl) | (exfalso; revert hF; decide) | ((first | refine chk_load ?_ | refine chk_slice ?_ | refine chk_convert ?_ | refine chk_store ?_ | refine chk_call (by kernel_rfl) ?_); simp only [eq_self, ev_tmp, upd_apply, rowsOfV, List.mem_cons, List.not_mem_nil, or_false, forall_eq, forall_eq_or_imp, obj_put, obj_new, nx_new, nx_put, Nat.reduceEqDiff, if_true, if_false, reduceIte, implies_true, and_self, and_true, true_or, or_true, live70 0, S38str b34, S38str b4, RF, str_eql, T1, T3, T9, T30, T38, T66])))
        | (apply D_grd
           · (simp only [yieldedA, RY, Nat.reduceEqDiff, reduceIte, live70 0, S38str b34, S38str b4, RF, str_eql, T1, T3, T9, T30, T38, T66] <;> rfl)))
      refine D_fn ?_ (ext75 1 h4 v2 (.slice (some ⟨h.nx, 0, none⟩) 32 32) b key b24 bk4 (by omega) (by omega)) iso75 (fun v4 h4 hp _ r _ hr => hp.2.2 r hr) ?_
      · rfl
      intro v5 h5 ⟨hv5, F5⟩
      subst hv5
      repeat (first
        | refine D_nil ?_ | refine I_true ?_ | refine I_false ?_
        | ((first | apply D_op | apply D_op0)
           · (first | (simp (maxDischargeDepth := 9) only [RA, Nat.reduceEqDiff, Nat.reduceLT, Nat.reduceLeDiff, Nat.reduceAdd, Nat.reduceSub, Nat.reduceMul, Nat.reduceDiv, Nat.reduceMod, Nat.reducePow, Nat.reduceBEq, Nat.reduceGT, reduceIte, T1, T3, T9, T30, T38, T66] <;> rfl) | ((repeat (first | (simp (maxDischargeDepth := 9) only [RA, Nat.reduceEqDiff, Nat.reduceLT, Nat.reduceLeDiff, Nat.reduceAdd, Nat.reduceSub, Nat.reduceMul, Nat.reduceDiv, Nat.reduceMod, Nat.reducePow, Nat.reduceBEq, Nat.reduceGT, reduceIte, T1, T3, T9, T30, T38, T66]; done) | simp (maxDischargeDepth := 9) only [RA, Nat.reduceEqDiff, Nat.reduceLT, Nat.reduceLeDiff, Nat.reduceAdd, Nat.reduceSub, Nat.reduceMul, Nat.reduceDiv, Nat.reduceMod, Nat.reducePow, Nat.reduceBEq, Nat.reduceGT, reduceIte, T1, T3, T9, T30, T38, T66] | simp (disch := first | assumption | omega) only [RV, T1, T3, T9, T30, T38, T66])) <;> rfl))
           · (intro hF; first | exact chk_pure rfl | exact chk_alloc rfl | exact chk_read rfl | exact chk_iso iso69 | exact chk_call iso69 (fun _ _ _ => rfl) | exact chk_iso iso70 | exact chk_call iso70 (fun _ _ _ => rfl) | exact chk_iso iso72 | exact chk_call iso72 (fun _ _ _ => rfl) | exact chk_iso iso74 | exact chk_call iso74 (fun _ _ _ => rfl) | exact chk_iso iso75 | exact chk_call iso75 (fun _ _ _ => rfl) | exact chk_iso iso76 | exact chk_call iso76 (fun _ _ _ => rfl) | (exfalso; revert hF; decide) | ((first | refine chk_load ?_ | refine chk_slice ?_ | refine chk_convert ?_ | refine chk_store ?_ | refine chk_call (by kernel_rfl) ?_); simp only [eq_self, ev_tmp, upd_apply, rowsOfV, List.mem_cons, List.not_mem_nil, or_false, forall_eq, forall_eq_or_imp, obj_put, obj_new, nx_new, nx_put, Nat.reduceEqDiff, if_true, if_false, reduceIte, implies_true, and_self, and_true, true_or, or_true, T1, T3, T9, T30, T38, T66])))
        | (apply D_grd
           · (simp only [yieldedA, RY, Nat.reduceEqDiff, reduceIte, T1, T3, T9, T30, T38, T66] <;> rfl)))
      refine D_fn ?_ (ext76 3 h5 v2 (.slice (some ⟨h.nx, 0, none⟩) 32 32) b key (b24.fr0 F5) (bk4.fr0 F5) (by omega) (by omega)) iso76 (fun v4 h4 hp _ r _ hr => hp.2.2 r hr) ?_
      · rfl
      intro v6 h6 ⟨hv6, F6⟩
      subst hv6
      repeat (first
        | refine D_nil ?_ | refine I_true ?_ | refine I_false ?_
        | ((first | apply D_op | apply D_op0)
           · (first | (simp (maxDischargeDepth := 9) only [RA, Nat.reduceEqDiff, Nat.reduceLT, Nat.reduceLeDiff, Nat.reduceAdd, Nat.reduceSub, Nat.reduceMul, Nat.reduceDiv, Nat.reduceMod, Nat.reducePow, Nat.reduceBEq, Nat.reduceGT, reduceIte, beq30 (hmacS_length b key) (hmacS_length b key), T1, T3, T9, T30, T38, T66] <;> rfl) | ((repeat (first | (simp (maxDischargeDepth := 9) only [RA, Nat.reduceEqDiff, Nat.reduceLT, Nat.reduceLeDiff, Nat.reduceAdd, Nat.reduceSub, Nat.reduceMul, Nat.reduceDiv, Nat.reduceMod, Nat.reducePow, Nat.reduceBEq, Nat.reduceGT, reduceIte, beq30 (hmacS_length b key) (hmacS_length b key), T1, T3, T9, T30, T38, T66]; done) | simp (maxDischargeDepth := 9) only [RA, Nat.reduceEqDiff, Nat.reduceLT, Nat.reduceLeDiff, Nat.reduceAdd, Nat.reduceSub, Nat.reduceMul, Nat.reduceDiv, Nat.reduceMod, Nat.reducePow, Nat.reduceBEq, Nat.reduceGT, reduceIte, beq30 (hmacS_length b key) (hmacS_length b key), T1, T3, T9, T30, T38, T66] | simp (disch := first | assumption | omega) only [RV, beq30 (hmacS_length b key) (hmacS_length b key), T1, T3, T9, T30, T38, T66])) <;> rfl))
           · (intro hF; first | exact chk_pure rfl | exact chk_alloc rfl | exact chk_read rfl | exact chk_iso iso69 | exact chk_call iso69 (fun _ _ _ => rfl) | exact chk_iso iso70 | exact chk_call iso70 (fun _ _ _ => rfl) | exact chk_iso iso72 | exact chk_call iso72 (fun _ _ _ => rfl) | exact chk_iso iso74 | exact chk_call iso74 (fun _ _ _ => rfl) | exact chk_iso iso75 | exact chk_call iso75 (fun _ _ _ => rfl) | exact chk_iso iso76 | exact chk_call iso76 (fun _ _ _ => rfl) | (exfalso; revert hF; decide) | ((first | refine chk_load ?_ | refine chk_slice ?_ | refine chk_convert ?_ | refine chk_store ?_ | refine chk_call (by kernel_rfl) ?_); simp only [eq_self, ev_tmp, upd_apply, rowsOfV, List.mem_cons, List.not_mem_nil, or_false, forall_eq, forall_eq_or_imp, obj_put, obj_new, nx_new, nx_put, Nat.reduceEqDiff, if_true, if_false, reduceIte, implies_true, and_self, and_true, true_or, or_true, beq30 (hmacS_length b key) (hmacS_length b key), T1, T3, T9, T30, T38, T66])))
        | (apply D_grd
           · (simp only [yieldedA, RY, Nat.reduceEqDiff, reduceIte, beq30 (hmacS_length b key) (hmacS_length b key), T1, T3, T9, T30, T38, T66] <;> rfl)))
      repeat (first
        | refine R_seq ?_ | refine R_region ?_ | refine R_nil ?_ | refine Q_seq ?_ | refine Q_norm ?_ | refine Q_seqr ?_ | refine Q_seqx ?_ | refine Q_bl ?_ | refine Q_blr ?_ | refine Q_blx ?_ | refine Q_blo rfl ?_ | refine R_block ?_ | refine R_skip ?_ | refine R_exit ?_ | refine R_ret ?_ | refine I_true ?_ | refine I_false ?_ | refine N_exit ?_ | refine N_ret ?_
        | ((first | apply R_op | apply R_op0)
           · (first | (simp (maxDischargeDepth := 9) only [RA, Nat.reduceEqDiff, Nat.reduceLT, Nat.reduceLeDiff, Nat.reduceAdd, Nat.reduceSub, Nat.reduceMul, Nat.reduceDiv, Nat.reduceMod, Nat.reducePow, Nat.reduceBEq, Nat.reduceGT, reduceIte, T1, T3, T9, T30, T38, T66] <;> rfl) | ((repeat (first | (simp (maxDischargeDepth := 9) only [RA, Nat.reduceEqDiff, Nat.reduceLT, Nat.reduceLeDiff, Nat.reduceAdd, Nat.reduceSub, Nat.reduceMul, Nat.reduceDiv, Nat.reduceMod, Nat.reducePow, Nat.reduceBEq, Nat.reduceGT, reduceIte, T1, T3, T9, T30, T38, T66]; done) | simp (maxDischargeDepth := 9) only [RA, Nat.reduceEqDiff, Nat.reduceLT, Nat.reduceLeDiff, Nat.reduceAdd, Nat.reduceSub, Nat.reduceMul, Nat.reduceDiv, Nat.reduceMod, Nat.reducePow, Nat.reduceBEq, Nat.reduceGT, reduceIte, T1, T3, T9, T30, T38, T66] | simp (disch := first | assumption | omega) only [RV, T1, T3, T9, T30, T38, T66])) <;> rfl)))
        | (apply R_cond
           · (simp only [RE, Nat.reduceEqDiff, Nat.reduceLT, Nat.reduceLeDiff, Nat.reduceBEq, reduceIte, T1, T3, T9, T30, T38, T66] <;> rfl))
        | (apply R_grd
           · (simp only [yieldedA, RY, Nat.reduceEqDiff, reduceIte, T1, T3, T9, T30, T38, T66] <;> rfl)))
      (first | refine ⟨.inr rfl, _, rfl, ?_⟩ | refine ⟨.inl rfl, _, rfl, ?_⟩) <;> simp only [packR, upd_apply, Nat.reduceEqDiff, if_true, if_false, reduceIte]
    · have h1 : 300 < n := by omega
      by_cases h8160 : n ≤ 8160
      · repeat (first
        | refine R_seq ?_ | refine R_region ?_ | refine R_nil ?_ | refine Q_seq ?_ | refine Q_norm ?_ | refine Q_seqr ?_ | refine Q_seqx ?_ | refine Q_bl ?_ | refine Q_blr ?_ | refine Q_blx ?_ | refine Q_blo rfl ?_ | refine R_block ?_ | refine R_skip ?_ | refine R_exit ?_ | refine R_ret ?_ | refine I_true ?_ | refine I_false ?_ | refine N_exit ?_ | refine N_ret ?_
        | ((first | apply R_op | apply R_op0)
           · (first | (simp (maxDischargeDepth := 9) only [RA, Nat.reduceEqDiff, Nat.reduceLT, Nat.reduceLeDiff, Nat.reduceAdd, Nat.reduceSub, Nat.reduceMul, Nat.reduceDiv, Nat.reduceMod, Nat.reducePow, Nat.reduceBEq, Nat.reduceGT, reduceIte, e2, hk, hck, h1, h8160, T1, T3, T9, T30, T38, T66] <;> rfl) | ((repeat (first | (simp (maxDischargeDepth := 9) only [RA, Nat.reduceEqDiff, Nat.reduceLT, Nat.reduceLeDiff, Nat.reduceAdd, Nat.reduceSub, Nat.reduceMul, Nat.reduceDiv, Nat.reduceMod, Nat.reducePow, Nat.reduceBEq, Nat.reduceGT, reduceIte, e2, hk, hck, h1, h8160, T1, T3, T9, T30, T38, T66]; done) | simp (maxDischargeDepth := 9) only [RA, Nat.reduceEqDiff, Nat.reduceLT, Nat.reduceLeDiff, Nat.reduceAdd, Nat.reduceSub, Nat.reduceMul, Nat.reduceDiv, Nat.reduceMod, Nat.reducePow, Nat.reduceBEq, Nat.reduceGT, reduceIte, e2, hk, hck, h1, h8160, T1, T3, T9, T30, T38, T66] | simp (disch := first | assumption | omega) only [RV, e2, hk, hck, h1, h8160, T1, T3, T9, T30, T38, T66])) <;> rfl)))
        | (apply R_cond
           · (simp only [RE, Nat.reduceEqDiff, Nat.reduceLT, Nat.reduceLeDiff, Nat.reduceBEq, reduceIte, e2, hk, hck, h1, h8160, T1, T3, T9, T30, T38, T66] <;> rfl))
        | (apply R_grd
           · (simp only [yieldedA, RY, Nat.reduceEqDiff, reduceIte, e2, hk, hck, h1, h8160, T1, T3, T9, T30, T38, T66] <;> rfl)))
        rw [← hH]
        clear hH
        refine R_fn ?_ (exp72 1 H key v2 b 300 hk b2 (by omega) (by omega)) ?_
        · rfl
        intro v3 h3 ⟨⟨u3, hv3, b3⟩, F3⟩
        subst hv3
        have o3 := F3.2 h.nx n0
        rw [o0] at o3
        repeat (first
          | refine R_seq ?_ | refine R_region ?_ | refine R_nil ?_ | refine Q_seq ?_ | refine Q_norm ?_ | refine Q_seqr ?_ | refine Q_seqx ?_ | refine Q_bl ?_ | refine Q_blr ?_ | refine Q_blx ?_ | refine Q_blo rfl ?_ | refine R_block ?_ | refine R_skip ?_ | refine R_exit ?_ | refine R_ret ?_ | refine I_true ?_ | refine I_false ?_ | refine N_exit ?_ | refine N_ret ?_
          | ((first | apply R_op | apply R_op0)
             · (first | (simp (maxDischargeDepth := 9) only [RA, Nat.reduceEqDiff, Nat.reduceLT, Nat.reduceLeDiff, Nat.reduceAdd, Nat.reduceSub, Nat.reduceMul, Nat.reduceDiv, Nat.reduceMod, Nat.reducePow, Nat.reduceBEq, Nat.reduceGT, reduceIte, o3, hck, T1, T3, T9, T30, T38, T66] <;> rfl) | ((repeat (first | (simp (maxDischargeDepth := 9) only [RA, Nat.reduceEqDiff, Nat.reduceLT, Nat.reduceLeDiff, Nat.reduceAdd, Nat.reduceSub, Nat.reduceMul, Nat.reduceDiv, Nat.reduceMod, Nat.reducePow, Nat.reduceBEq, Nat.reduceGT, reduceIte, o3, hck, T1, T3, T9, T30, T38, T66]; done) | simp (maxDischargeDepth := 9) only [RA, Nat.reduceEqDiff, Nat.reduceLT, Nat.reduceLeDiff, Nat.reduceAdd, Nat.reduceSub, Nat.reduceMul, Nat.reduceDiv, Nat.reduceMod, Nat.reducePow, Nat.reduceBEq, Nat.reduceGT, reduceIte, o3, hck, T1, T3, T9, T30, T38, T66] | simp (disch := first | assumption | omega) only [RV, o3, hck, T1, T3, T9, T30, T38, T66])) <;> rfl)))
          | (apply R_cond
             · (simp only [RE, Nat.reduceEqDiff, Nat.reduceLT, Nat.reduceLeDiff, Nat.reduceBEq, reduceIte, o3, hck, T1, T3, T9, T30, T38, T66] <;> rfl))
          | (apply R_grd
             · (simp only [yieldedA, RY, Nat.reduceEqDiff, reduceIte, o3, hck, T1, T3, T9, T30, T38, T66] <;> rfl)))
        refine R_fn ?_ (exp74 3 h3 key v2 b 300 hk (b2.fr0 F3) (by omega) (by omega)) ?_
        · rfl
        intro v4 h4 ⟨⟨u4, hv4, b4⟩, F4⟩
        subst hv4
        have b34 : By h4 u3 _ := b3.fr0 F4
        have o4 := F4.2 h.nx (by have := F3.1; omega)
        rw [o3] at o4
        have b24 : By h4 v2 b := (b2.fr0 F3).fr0 F4
        have n4 : h.nx < h4.nx := by have := F3.1; have := F4.1; omega
        have bk4 : By h4 (.slice (some ⟨h.nx, 0, none⟩) 32 32) key := by_row (k := .rw) n4 o4 (Nat.le_refl _) hk
        repeat (first
          | refine R_seq ?_ | refine R_region ?_ | refine R_nil ?_ | refine Q_seq ?_ | refine Q_norm ?_ | refine Q_seqr ?_ | refine Q_seqx ?_ | refine Q_bl ?_ | refine Q_blr ?_ | refine Q_blx ?_ | refine Q_blo rfl ?_ | refine R_block ?_ | refine R_skip ?_ | refine R_exit ?_ | refine R_ret ?_ | refine I_true ?_ | refine I_false ?_ | refine N_exit ?_ | refine N_ret ?_
          | ((first | apply R_op | apply R_op0)
             · (first | (simp (maxDischargeDepth := 9) only [RA, Nat.reduceEqDiff, Nat.reduceLT, Nat.reduceLeDiff, Nat.reduceAdd, Nat.reduceSub, Nat.reduceMul, Nat.reduceDiv, Nat.reduceMod, Nat.reducePow, Nat.reduceBEq, Nat.reduceGT, reduceIte, T1, T3, T9, T30, T38, T66] <;> rfl) | ((repeat (first | (simp (maxDischargeDepth := 9) only [RA, Nat.reduceEqDiff, Nat.reduceLT, Nat.reduceLeDiff, Nat.reduceAdd, Nat.reduceSub, Nat.reduceMul, Nat.reduceDiv, Nat.reduceMod, Nat.reducePow, Nat.reduceBEq, Nat.reduceGT, reduceIte, T1, T3, T9, T30, T38, T66]; done) | simp (maxDischargeDepth := 9) only [RA, Nat.reduceEqDiff, Nat.reduceLT, Nat.reduceLeDiff, Nat.reduceAdd, Nat.reduceSub, Nat.reduceMul, Nat.reduceDiv, Nat.reduceMod, Nat.reducePow, Nat.reduceBEq, Nat.reduceGT, reduceIte, T1, T3, T9, T30, T38, T66] | simp (disch := first | assumption | omega) only [RV, T1, T3, T9, T30, T38, T66])) <;> rfl)))
          | (apply R_cond
             · (simp only [RE, Nat.reduceEqDiff, Nat.reduceLT, Nat.reduceLeDiff, Nat.reduceBEq, reduceIte, T1, T3, T9, T30, T38, T66] <;> rfl))
          | (apply R_grd
             · (simp only [yieldedA, RY, Nat.reduceEqDiff, reduceIte, T1, T3, T9, T30, T38, T66] <;> rfl)))
        refine D_draw [0, 3, 5, 15, 16, 18, 19] (fun _ => True) (by kernel_rfl) ?_
        repeat (first
          | refine D_nil ?_ | refine I_true ?_ | refine I_false ?_
          | ((first | apply D_op | apply D_op0)
             · (first | (simp (maxDischargeDepth := 9) only [RA, Nat.reduceEqDiff, Nat.reduceLT, Nat.reduceLeDiff, Nat.reduceAdd, Nat.reduceSub, Nat.reduceMul, Nat.reduceDiv, Nat.reduceMod, Nat.reducePow, Nat.reduceBEq, Nat.reduceGT, reduceIte, live70 0, S38str b34, S38str b4, RF, str_eql, T1, T3, T9, T30, T38, T66] <;> rfl) | ((repeat (first | (simp (maxDischargeDepth := 9) only [RA, Nat.reduceEqDiff, Nat.reduceLT, Nat.reduceLeDiff, Nat.reduceAdd, Nat.reduceSub, Nat.reduceMul, Nat.reduceDiv, Nat.reduceMod, Nat.reducePow, Nat.reduceBEq, Nat.reduceGT, reduceIte, live70 0, S38str b34, S38str b4, RF, str_eql, T1, T3, T9, T30, T38, T66]; done) | simp (maxDischargeDepth := 9) only [RA, Nat.reduceEqDiff, Nat.reduceLT, Nat.reduceLeDiff, Nat.reduceAdd, Nat.reduceSub, Nat.reduceMul, Nat.reduceDiv, Nat.reduceMod, Nat.reducePow, Nat.reduceBEq, Nat.reduceGT, reduceIte, live70 0, S38str b34, S38str b4, RF, str_eql, T1, T3, T9, T30, T38, T66] | simp (disch := first | assumption | omega) only [RV, live70 0, S38str b34, S38str b4, RF, str_eql, T1, T3, T9, T30, T38, T66])) <;> rfl))
             · (intro hF; first | exact chk_pure rfl | exact chk_alloc rfl | exact chk_read rfl | exact chk_iso iso69 | exact chk_call iso69 (fun _ _ _ => rfl) | exact chk_iso iso70 | exact chk_call iso70 (fun _ _ _ => rfl) | exact chk_iso iso72 | exact chk_call iso72 (fun _ _ _ => rfl) | exact chk_iso iso74 | exact chk_call iso74 (fun _ _ _ => rfl) | exact chk_iso iso75 | exact chk_call iso75 (fun _ _ _ => rfl) | exact chk_iso iso76 | exact chk_call iso76 (fun _ _ _ => rfl) | (exfalso; revert hF; decide) | ((first | refine chk_load ?_ | refine chk_slice ?_ | refine chk_convert ?_ | refine chk_store ?_ | refine chk_call (by kernel_rfl) ?_); simp only [eq_self, ev_tmp, upd_apply, rowsOfV, List.mem_cons, List.not_mem_nil, or_false, forall_eq, forall_eq_or_imp, obj_put, obj_new, nx_new, nx_put, Nat.reduceEqDiff, if_true, if_false, reduceIte, implies_true, and_self, and_true, true_or, or_true, live70 0, S38str b34, S38str b4, RF, str_eql, T1, T3, T9, T30, T38, T66])))
          | (apply D_grd
             · (simp only [yieldedA, RY, Nat.reduceEqDiff, reduceIte, live70 0, S38str b34, S38str b4, RF, str_eql, T1, T3, T9, T30, T38, T66] <;> rfl)))
        refine D_fn ?_ (ext75 1 h4 v2 (.slice (some ⟨h.nx, 0, none⟩) 32 32) b key b24 bk4 (by omega) (by omega)) iso75 (fun v4 h4 hp _ r _ hr => hp.2.2 r hr) ?_
        · rfl
        intro v5 h5 ⟨hv5, F5⟩
        subst hv5
        repeat (first
          | refine D_nil ?_ | refine I_true ?_ | refine I_false ?_
          | ((first | apply D_op | apply D_op0)
             · (first | (simp (maxDischargeDepth := 9) only [RA, Nat.reduceEqDiff, Nat.reduceLT, Nat.reduceLeDiff, Nat.reduceAdd, Nat.reduceSub, Nat.reduceMul, Nat.reduceDiv, Nat.reduceMod, Nat.reducePow, Nat.reduceBEq, Nat.reduceGT, reduceIte, T1, T3, T9, T30, T38, T66] <;> rfl) | ((repeat (first | (simp (maxDischargeDepth := 9) only [RA, Nat.reduceEqDiff, Nat.reduceLT, Nat.reduceLeDiff, Nat.reduceAdd, Nat.reduceSub, Nat.reduceMul, Nat.reduceDiv, Nat.reduceMod, Nat.reducePow, Nat.reduceBEq, Nat.reduceGT, reduceIte, T1, T3, T9, T30, T38, T66]; done) | simp (maxDischargeDepth := 9) only [RA, Nat.reduceEqDiff, Nat.reduceLT, Nat.reduceLeDiff, Nat.reduceAdd, Nat.reduceSub, Nat.reduceMul, Nat.reduceDiv, Nat.reduceMod, Nat.reducePow, Nat.reduceBEq, Nat.reduceGT, reduceIte, T1, T3, T9, T30, T38, T66] | simp (disch := first | assumption | omega) only [RV, T1, T3, T9, T30, T38, T66])) <;> rfl))
             · (intro hF; first | exact chk_pure rfl | exact chk_alloc rfl | exact chk_read rfl | exact chk_iso iso69 | exact chk_call iso69 (fun _ _ _ => rfl) | exact chk_iso iso70 | exact chk_call iso70 (fun _ _ _ => rfl) | exact chk_iso iso72 | exact chk_call iso72 (fun _ _ _ => rfl) | exact chk_iso iso74 | exact chk_call iso74 (fun _ _ _ => rfl) | exact chk_iso iso75 | exact chk_call iso75 (fun _ _ _ => rfl) | exact chk_iso iso76 | exact chk_call iso76 (fun _ _ _ => rfl) | (exfalso; revert hF; decide) | ((first | refine chk_load ?_ | refine chk_slice ?_ | refine chk_convert ?_ | refine chk_store ?_ | refine chk_call (by kernel_rfl) ?_); simp only [eq_self, ev_tmp, upd_apply, rowsOfV, List.mem_cons, List.not_mem_nil, or_false, forall_eq, forall_eq_or_imp, obj_put, obj_new, nx_new, nx_put, Nat.reduceEqDiff, if_true, if_false, reduceIte, implies_true, and_self, and_true, true_or, or_true, T1, T3, T9, T30, T38, T66])))
          | (apply D_grd
             · (simp only [yieldedA, RY, Nat.reduceEqDiff, reduceIte, T1, T3, T9, T30, T38, T66] <;> rfl)))
        refine D_fn ?_ (ext76 3 h5 v2 (.slice (some ⟨h.nx, 0, none⟩) 32 32) b key (b24.fr0 F5) (bk4.fr0 F5) (by omega) (by omega)) iso76 (fun v4 h4 hp _ r _ hr => hp.2.2 r hr) ?_
        · rfl
        intro v6 h6 ⟨hv6, F6⟩
        subst hv6
        repeat (first
          | refine D_nil ?_ | refine I_true ?_ | refine I_false ?_
          | ((first | apply D_op | apply D_op0)
             · (first | (simp (maxDischargeDepth := 9) only [RA, Nat.reduceEqDiff, Nat.reduceLT, Nat.reduceLeDiff, Nat.reduceAdd, Nat.reduceSub, Nat.reduceMul, Nat.reduceDiv, Nat.reduceMod, Nat.reducePow, Nat.reduceBEq, Nat.reduceGT, reduceIte, beq30 (hmacS_length b key) (hmacS_length b key), T1, T3, T9, T30, T38, T66] <;> rfl) | ((repeat (first | (simp (maxDischargeDepth := 9) only [RA, Nat.reduceEqDiff, Nat.reduceLT, Nat.reduceLeDiff, Nat.reduceAdd, Nat.reduceSub, Nat.reduceMul, Nat.reduceDiv, Nat.reduceMod, Nat.reducePow, Nat.reduceBEq, Nat.reduceGT, reduceIte, beq30 (hmacS_length b key) (hmacS_length b key), T1, T3, T9, T30, T38, T66]; done) | simp (maxDischargeDepth := 9) only [RA, Nat.reduceEqDiff, Nat.reduceLT, Nat.reduceLeDiff, Nat.reduceAdd, Nat.reduceSub, Nat.reduceMul, Nat.reduceDiv, Nat.reduceMod, Nat.reducePow, Nat.reduceBEq, Nat.reduceGT, reduceIte, beq30 (hmacS_length b key) (hmacS_length b key), T1, T3, T9, T30, T38, T66] | simp (disch := first | assumption | omega) only [RV, beq30 (hmacS_length b key) (hmacS_length b key), T1, T3, T9, T30, T38, T66])) <;> rfl))
             · (intro hF; first | exact chk_pure rfl | exact chk_alloc rfl | exact chk_read rfl | exact chk_iso iso69 | exact chk_call iso69 (fun _ _ _ => rfl) | exact chk_iso iso70 | exact chk_call iso70 (fun _ _ _ => rfl) | exact chk_iso iso72 | exact chk_call iso72 (fun _ _ _ => rfl) | exact chk_iso iso74 | exact chk_call iso74 (fun _ _ _ => rfl) | exact chk_iso iso75 | exact chk_call iso75 (fun _ _ _ => rfl) | exact chk_iso iso76 | exact chk_call iso76 (fun _ _ _ => rfl) | (exfalso; revert hF; decide) | ((first | refine chk_load ?_ | refine chk_slice ?_ | refine chk_convert ?_ | refine chk_store ?_ | refine chk_call (by kernel_rfl) ?_); simp only [eq_self, ev_tmp, upd_apply, rowsOfV, List.mem_cons, List.not_mem_nil, or_false, forall_eq, forall_eq_or_imp, obj_put, obj_new, nx_new, nx_put, Nat.reduceEqDiff, if_true, if_false, reduceIte, implies_true, and_self, and_true, true_or, or_true, beq30 (hmacS_length b key) (hmacS_length b key), T1, T3, T9, T30, T38, T66])))
          | (apply D_grd
             · (simp only [yieldedA, RY, Nat.reduceEqDiff, reduceIte, beq30 (hmacS_length b key) (hmacS_length b key), T1, T3, T9, T30, T38, T66] <;> rfl)))
        repeat (first
          | refine R_seq ?_ | refine R_region ?_ | refine R_nil ?_ | refine Q_seq ?_ | refine Q_norm ?_ | refine Q_seqr ?_ | refine Q_seqx ?_ | refine Q_bl ?_ | refine Q_blr ?_ | refine Q_blx ?_ | refine Q_blo rfl ?_ | refine R_block ?_ | refine R_skip ?_ | refine R_exit ?_ | refine R_ret ?_ | refine I_true ?_ | refine I_false ?_ | refine N_exit ?_ | refine N_ret ?_
          | ((first | apply R_op | apply R_op0)
             · (first | (simp (maxDischargeDepth := 9) only [RA, Nat.reduceEqDiff, Nat.reduceLT, Nat.reduceLeDiff, Nat.reduceAdd, Nat.reduceSub, Nat.reduceMul, Nat.reduceDiv, Nat.reduceMod, Nat.reducePow, Nat.reduceBEq, Nat.reduceGT, reduceIte, T1, T3, T9, T30, T38, T66] <;> rfl) | ((repeat (first | (simp (maxDischargeDepth := 9) only [RA, Nat.reduceEqDiff, Nat.reduceLT, Nat.reduceLeDiff, Nat.reduceAdd, Nat.reduceSub, Nat.reduceMul, Nat.reduceDiv, Nat.reduceMod, Nat.reducePow, Nat.reduceBEq, Nat.reduceGT, reduceIte, T1, T3, T9, T30, T38, T66]; done) | simp (maxDischargeDepth := 9) only [RA, Nat.reduceEqDiff, Nat.reduceLT, Nat.reduceLeDiff, Nat.reduceAdd, Nat.reduceSub, Nat.reduceMul, Nat.reduceDiv, Nat.reduceMod, Nat.reducePow, Nat.reduceBEq, Nat.reduceGT, reduceIte, T1, T3, T9, T30, T38, T66] | simp (disch := first | assumption | omega) only [RV, T1, T3, T9, T30, T38, T66])) <;> rfl)))
          | (apply R_cond
             · (simp only [RE, Nat.reduceEqDiff, Nat.reduceLT, Nat.reduceLeDiff, Nat.reduceBEq, reduceIte, T1, T3, T9, T30, T38, T66] <;> rfl))
          | (apply R_grd
             · (simp only [yieldedA, RY, Nat.reduceEqDiff, reduceIte, T1, T3, T9, T30, T38, T66] <;> rfl)))
        (first | refine ⟨.inr rfl, _, rfl, ?_⟩ | refine ⟨.inl rfl, _, rfl, ?_⟩) <;> simp only [packR, upd_apply, Nat.reduceEqDiff, if_true, if_false, reduceIte]
      · have hbad : badLen (iv n) := .inr ⟨n, by omega, rfl⟩
        repeat (first
          | refine R_seq ?_ | refine R_region ?_ | refine R_nil ?_ | refine Q_seq ?_ | refine Q_norm ?_ | refine Q_seqr ?_ | refine Q_seqx ?_ | refine Q_bl ?_ | refine Q_blr ?_ | refine Q_blx ?_ | refine Q_blo rfl ?_ | refine R_block ?_ | refine R_skip ?_ | refine R_exit ?_ | refine R_ret ?_ | refine I_true ?_ | refine I_false ?_ | refine N_exit ?_ | refine N_ret ?_
          | ((first | apply R_op | apply R_op0)
             · (first | (simp (maxDischargeDepth := 9) only [RA, Nat.reduceEqDiff, Nat.reduceLT, Nat.reduceLeDiff, Nat.reduceAdd, Nat.reduceSub, Nat.reduceMul, Nat.reduceDiv, Nat.reduceMod, Nat.reducePow, Nat.reduceBEq, Nat.reduceGT, reduceIte, e2, hk, hck, h1, h8160, T1, T3, T9, T30, T38, T66] <;> rfl) | ((repeat (first | (simp (maxDischargeDepth := 9) only [RA, Nat.reduceEqDiff, Nat.reduceLT, Nat.reduceLeDiff, Nat.reduceAdd, Nat.reduceSub, Nat.reduceMul, Nat.reduceDiv, Nat.reduceMod, Nat.reducePow, Nat.reduceBEq, Nat.reduceGT, reduceIte, e2, hk, hck, h1, h8160, T1, T3, T9, T30, T38, T66]; done) | simp (maxDischargeDepth := 9) only [RA, Nat.reduceEqDiff, Nat.reduceLT, Nat.reduceLeDiff, Nat.reduceAdd, Nat.reduceSub, Nat.reduceMul, Nat.reduceDiv, Nat.reduceMod, Nat.reducePow, Nat.reduceBEq, Nat.reduceGT, reduceIte, e2, hk, hck, h1, h8160, T1, T3, T9, T30, T38, T66] | simp (disch := first | assumption | omega) only [RV, e2, hk, hck, h1, h8160, T1, T3, T9, T30, T38, T66])) <;> rfl)))
          | (apply R_cond
             · (simp only [RE, Nat.reduceEqDiff, Nat.reduceLT, Nat.reduceLeDiff, Nat.reduceBEq, reduceIte, e2, hk, hck, h1, h8160, T1, T3, T9, T30, T38, T66] <;> rfl))
          | (apply R_grd
             · (simp only [yieldedA, RY, Nat.reduceEqDiff, reduceIte, e2, hk, hck, h1, h8160, T1, T3, T9, T30, T38, T66] <;> rfl)))
        rw [← hH]
        clear hH
        refine R_fn ?_ (exp72bad 10 H key v2 _ hk hbad) ?_
        · rfl
        intro v3 h3 ⟨hv3, F3⟩
        subst hv3
        have o3 := F3.2 h.nx n0
        rw [o0] at o3
        repeat (first
          | refine R_seq ?_ | refine R_region ?_ | refine R_nil ?_ | refine Q_seq ?_ | refine Q_norm ?_ | refine Q_seqr ?_ | refine Q_seqx ?_ | refine Q_bl ?_ | refine Q_blr ?_ | refine Q_blx ?_ | refine Q_blo rfl ?_ | refine R_block ?_ | refine R_skip ?_ | refine R_exit ?_ | refine R_ret ?_ | refine I_true ?_ | refine I_false ?_ | refine N_exit ?_ | refine N_ret ?_
          | ((first | apply R_op | apply R_op0)
             · (first | (simp (maxDischargeDepth := 9) only [RA, Nat.reduceEqDiff, Nat.reduceLT, Nat.reduceLeDiff, Nat.reduceAdd, Nat.reduceSub, Nat.reduceMul, Nat.reduceDiv, Nat.reduceMod, Nat.reducePow, Nat.reduceBEq, Nat.reduceGT, reduceIte, o3, hck, T1, T3, T9, T30, T38, T66] <;> rfl) | ((repeat (first | (simp (maxDischargeDepth := 9) only [RA, Nat.reduceEqDiff, Nat.reduceLT, Nat.reduceLeDiff, Nat.reduceAdd, Nat.reduceSub, Nat.reduceMul, Nat.reduceDiv, Nat.reduceMod, Nat.reducePow, Nat.reduceBEq, Nat.reduceGT, reduceIte, o3, hck, T1, T3, T9, T30, T38, T66]; done) | simp (maxDischargeDepth := 9) only [RA, Nat.reduceEqDiff, Nat.reduceLT, Nat.reduceLeDiff, Nat.reduceAdd, Nat.reduceSub, Nat.reduceMul, Nat.reduceDiv, Nat.reduceMod, Nat.reducePow, Nat.reduceBEq, Nat.reduceGT, reduceIte, o3, hck, T1, T3, T9, T30, T38, T66] | simp (disch := first | assumption | omega) only [RV, o3, hck, T1, T3, T9, T30, T38, T66])) <;> rfl)))
          | (apply R_cond
             · (simp only [RE, Nat.reduceEqDiff, Nat.reduceLT, Nat.reduceLeDiff, Nat.reduceBEq, reduceIte, o3, hck, T1, T3, T9, T30, T38, T66] <;> rfl))
          | (apply R_grd
             · (simp only [yieldedA, RY, Nat.reduceEqDiff, reduceIte, o3, hck, T1, T3, T9, T30, T38, T66] <;> rfl)))
        refine R_fn ?_ (exp74bad 10 h3 key v2 _ hk hbad) ?_
        · rfl
        intro v4 h4 ⟨hv4, F4⟩
        subst hv4
        have b34 : By h4 (.slice none 0 0) [] := by_nil
        have b4 := b34
        have o4 := F4.2 h.nx (by have := F3.1; omega)
        rw [o3] at o4
        have b24 : By h4 v2 b := (b2.fr0 F3).fr0 F4
        have n4 : h.nx < h4.nx := by have := F3.1; have := F4.1; omega
        have bk4 : By h4 (.slice (some ⟨h.nx, 0, none⟩) 32 32) key := by_row (k := .rw) n4 o4 (Nat.le_refl _) hk
        repeat (first
          | refine R_seq ?_ | refine R_region ?_ | refine R_nil ?_ | refine Q_seq ?_ | refine Q_norm ?_ | refine Q_seqr ?_ | refine Q_seqx ?_ | refine Q_bl ?_ | refine Q_blr ?_ | refine Q_blx ?_ | refine Q_blo rfl ?_ | refine R_block ?_ | refine R_skip ?_ | refine R_exit ?_ | refine R_ret ?_ | refine I_true ?_ | refine I_false ?_ | refine N_exit ?_ | refine N_ret ?_
          | ((first | apply R_op | apply R_op0)
             · (first | (simp (maxDischargeDepth := 9) only [RA, Nat.reduceEqDiff, Nat.reduceLT, Nat.reduceLeDiff, Nat.reduceAdd, Nat.reduceSub, Nat.reduceMul, Nat.reduceDiv, Nat.reduceMod, Nat.reducePow, Nat.reduceBEq, Nat.reduceGT, reduceIte, T1, T3, T9, T30, T38, T66] <;> rfl) | ((repeat (first | (simp (maxDischargeDepth := 9) only [RA, Nat.reduceEqDiff, Nat.reduceLT, Nat.reduceLeDiff, Nat.reduceAdd, Nat.reduceSub, Nat.reduceMul, Nat.reduceDiv, Nat.reduceMod, Nat.reducePow, Nat.reduceBEq, Nat.reduceGT, reduceIte, T1, T3, T9, T30, T38, T66]; done) | simp (maxDischargeDepth := 9) only [RA, Nat.reduceEqDiff, Nat.reduceLT, Nat.reduceLeDiff, Nat.reduceAdd, Nat.reduceSub, Nat.reduceMul, Nat.reduceDiv, Nat.reduceMod, Nat.reducePow, Nat.reduceBEq, Nat.reduceGT, reduceIte, T1, T3, T9, T30, T38, T66] | simp (disch := first | assumption | omega) only [RV, T1, T3, T9, T30, T38, T66])) <;> rfl)))
          | (apply R_cond
             · (simp only [RE, Nat.reduceEqDiff, Nat.reduceLT, Nat.reduceLeDiff, Nat.reduceBEq, reduceIte, T1, T3, T9, T30, T38, T66] <;> rfl))
          | (apply R_grd
             · (simp only [yieldedA, RY, Nat.reduceEqDiff, reduceIte, T1, T3, T9, T30, T38, T66] <;> rfl)))
        refine D_draw [0, 3, 5, 15, 16, 18, 19] (fun _ => True) (by kernel_rfl) ?_
        repeat (first
          | refine D_nil ?_ | refine I_true ?_ | refine I_false ?_
          | ((first | apply D_op | apply D_op0)
             · (first | (simp (maxDischargeDepth := 9) only [RA, Nat.reduceEqDiff, Nat.reduceLT, Nat.reduceLeDiff, Nat.reduceAdd, Nat.reduceSub, Nat.reduceMul, Nat.reduceDiv, Nat.reduceMod, Nat.reducePow, Nat.reduceBEq, Nat.reduceGT, reduceIte, live70 0, S38str b34, S38str b4, RF, str_eql, T1, T3, T9, T30, T38, T66] <;> rfl) | ((repeat (first | (simp (maxDischargeDepth := 9) only [RA, Nat.reduceEqDiff, Nat.reduceLT, Nat.reduceLeDiff, Nat.reduceAdd, Nat.reduceSub, Nat.reduceMul, Nat.reduceDiv, Nat.reduceMod, Nat.reducePow, Nat.reduceBEq, Nat.reduceGT, reduceIte, live70 0, S38str b34, S38str b4, RF, str_eql, T1, T3, T9, T30, T38, T66]; done) | simp (maxDischargeDepth := 9) only [RA, Nat.reduceEqDiff, Nat.reduceLT, Nat.reduceLeDiff, Nat.reduceAdd, Nat.reduceSub, Nat.reduceMul, Nat.reduceDiv, Nat.reduceMod, Nat.reducePow, Nat.reduceBEq, Nat.reduceGT, reduceIte, live70 0, S38str b34, S38str b4, RF, str_eql, T1, T3, T9, T30, T38, T66] | simp (disch := first | assumption | omega) only [RV, live70 0, S38str b34, S38str b4, RF, str_eql, T1, T3, T9, T30, T38, T66])) <;> rfl))
             · (intro hF; first | exact chk_pure rfl | exact chk_alloc rfl | exact chk_read rfl | exact chk_iso iso69 | exact chk_call iso69 (fun _ _ _ => rfl) | exact chk_iso iso70 | exact chk_call iso70 (fun _ _ _ => rfl) | exact chk_iso iso72 | exact chk_call iso72 (fun _ _ _ => rfl) | exact chk_iso iso74 | exact chk_call iso74 (fun _ _ _ => rfl) | exact chk_iso iso75 | exact chk_call iso75 (fun _ _ _ => rfl) | exact chk_iso iso76 | exact chk_call iso76 (fun _ _ _ => rfl) | (exfalso; revert hF; decide) | ((first | refine chk_load ?_ | refine chk_slice ?_ | refine chk_convert ?_ | refine chk_store ?_ | refine chk_call (by kernel_rfl) ?_); simp only [eq_self, ev_tmp, upd_apply, rowsOfV, List.mem_cons, List.not_mem_nil, or_false, forall_eq, forall_eq_or_imp, obj_put, obj_new, nx_new, nx_put, Nat.reduceEqDiff, if_true, if_false, reduceIte, implies_true, and_self, and_true, true_or, or_true, live70 0, S38str b34, S38str b4, RF, str_eql, T1, T3, T9, T30, T38, T66])))
          | (apply D_grd
             · (simp only [yieldedA, RY, Nat.reduceEqDiff, reduceIte, live70 0, S38str b34, S38str b4, RF, str_eql, T1, T3, T9, T30, T38, T66] <;> rfl)))
        refine D_fn ?_ (ext75 1 h4 v2 (.slice (some ⟨h.nx, 0, none⟩) 32 32) b key b24 bk4 (by omega) (by omega)) iso75 (fun v4 h4 hp _ r _ hr => hp.2.2 r hr) ?_
        · rfl
        intro v5 h5 ⟨hv5, F5⟩
        subst hv5
        repeat (first
          | refine D_nil ?_ | refine I_true ?_ | refine I_false ?_
          | ((first | apply D_op | apply D_op0)
             · (first | (simp (maxDischargeDepth := 9) only [RA, Nat.reduceEqDiff, Nat.reduceLT, Nat.reduceLeDiff, Nat.reduceAdd, Nat.reduceSub, Nat.reduceMul, Nat.reduceDiv, Nat.reduceMod, Nat.reducePow, Nat.reduceBEq, Nat.reduceGT, reduceIte, T1, T3, T9, T30, T38, T66] <;> rfl) | ((repeat (first | (simp (maxDischargeDepth := 9) only [RA, Nat.reduceEqDiff, Nat.reduceLT, Nat.reduceLeDiff, Nat.reduceAdd, Nat.reduceSub, Nat.reduceMul, Nat.reduceDiv, Nat.reduceMod, Nat.reducePow, Nat.reduceBEq, Nat.reduceGT, reduceIte, T1, T3, T9, T30, T38, T66]; done) | simp (maxDischargeDepth := 9) only [RA, Nat.reduceEqDiff, Nat.reduceLT, Nat.reduceLeDiff, Nat.reduceAdd, Nat.reduceSub, Nat.reduceMul, Nat.reduceDiv, Nat.reduceMod, Nat.reducePow, Nat.reduceBEq, Nat.reduceGT, reduceIte, T1, T3, T9, T30, T38, T66] | simp (disch := first | assumption | omega) only [RV, T1, T3, T9, T30, T38, T66])) <;> rfl))
             · (intro hF; first | exact chk_pure rfl | exact chk_alloc rfl | exact chk_read rfl | exact chk_iso iso69 | exact chk_call iso69 (fun _ _ _ => rfl) | exact chk_iso iso70 | exact chk_call iso70 (fun _ _ _ => rfl) | exact chk_iso iso72 | exact chk_call iso72 (fun _ _ _ => rfl) | exact chk_iso iso74 | exact chk_call iso74 (fun _ _ _ => rfl) | exact chk_iso iso75 | exact chk_call iso75 (fun _ _ _ => rfl) | exact chk_iso iso76 | exact chk_call iso76 (fun _ _ _ => rfl) | (exfalso; revert hF; decide) | ((first | refine chk_load ?_ | refine chk_slice ?_ | refine chk_convert ?_ | refine chk_store ?_ | refine chk_call (by kernel_rfl) ?_); simp only [eq_self, ev_tmp, upd_apply, rowsOfV, List.mem_cons, List.not_mem_nil, or_false, forall_eq, forall_eq_or_imp, obj_put, obj_new, nx_new, nx_put, Nat.reduceEqDiff, if_true, if_false, reduceIte, implies_true, and_self, and_true, true_or, or_true, T1, T3, T9, T30, T38, T66])))
          | (apply D_grd
             · (simp only [yieldedA, RY, Nat.reduceEqDiff, reduceIte, T1, T3, T9, T30, T38, T66] <;> rfl)))
        refine D_fn ?_ (ext76 3 h5 v2 (.slice (some ⟨h.nx, 0, none⟩) 32 32) b key (b24.fr0 F5) (bk4.fr0 F5) (by omega) (by omega)) iso76 (fun v4 h4 hp _ r _ hr => hp.2.2 r hr) ?_
        · rfl
        intro v6 h6 ⟨hv6, F6⟩
        subst hv6
        repeat (first
          | refine D_nil ?_ | refine I_true ?_ | refine I_false ?_
          | ((first | apply D_op | apply D_op0)
             · (first | (simp (maxDischargeDepth := 9) only [RA, Nat.reduceEqDiff, Nat.reduceLT, Nat.reduceLeDiff, Nat.reduceAdd, Nat.reduceSub, Nat.reduceMul, Nat.reduceDiv, Nat.reduceMod, Nat.reducePow, Nat.reduceBEq, Nat.reduceGT, reduceIte, beq30 (hmacS_length b key) (hmacS_length b key), T1, T3, T9, T30, T38, T66] <;> rfl) | ((repeat (first | (simp (maxDischargeDepth := 9) only [RA, Nat.reduceEqDiff, Nat.reduceLT, Nat.reduceLeDiff, Nat.reduceAdd, Nat.reduceSub, Nat.reduceMul, Nat.reduceDiv, Nat.reduceMod, Nat.reducePow, Nat.reduceBEq, Nat.reduceGT, reduceIte, beq30 (hmacS_length b key) (hmacS_length b key), T1, T3, T9, T30, T38, T66]; done) | simp (maxDischargeDepth := 9) only [RA, Nat.reduceEqDiff, Nat.reduceLT, Nat.reduceLeDiff, Nat.reduceAdd, Nat.reduceSub, Nat.reduceMul, Nat.reduceDiv, Nat.reduceMod, Nat.reducePow, Nat.reduceBEq, Nat.reduceGT, reduceIte, beq30 (hmacS_length b key) (hmacS_length b key), T1, T3, T9, T30, T38, T66] | simp (disch := first | assumption | omega) only [RV, beq30 (hmacS_length b key) (hmacS_length b key), T1, T3, T9, T30, T38, T66])) <;> rfl))
             · (intro hF; first | exact chk_pure rfl | exact chk_alloc rfl | exact chk_read rfl | exact chk_iso iso69 | exact chk_call iso69 (fun _ _ _ => rfl) | exact chk_iso iso70 | exact chk_call iso70 (fun _ _ _ => rfl) | exact chk_iso iso72 | exact chk_call iso72 (fun _ _ _ => rfl) | exact chk_iso iso74 | exact chk_call iso74 (fun _ _ _ => rfl) | exact chk_iso iso75 | exact chk_call iso75 (fun _ _ _ => rfl) | exact chk_iso iso76 | exact chk_call iso76 (fun _ _ _ => rfl) | (exfalso; revert hF; decide) | ((first | refine chk_load ?_ | refine chk_slice ?_ | refine chk_convert ?_ | refine chk_store ?_ | refine chk_call (by kernel_rfl) ?_); simp only [eq_self, ev_tmp, upd_apply, rowsOfV, List.mem_cons, List.not_mem_nil, or_false, forall_eq, forall_eq_or_imp, obj_put, obj_new, nx_new, nx_put, Nat.reduceEqDiff, if_true, if_false, reduceIte, implies_true, and_self, and_true, true_or, or_true, beq30 (hmacS_length b key) (hmacS_length b key), T1, T3, T9, T30, T38, T66])))
          | (apply D_grd
             · (simp only [yieldedA, RY, Nat.reduceEqDiff, reduceIte, beq30 (hmacS_length b key) (hmacS_length b key), T1, T3, T9, T30, T38, T66] <;> rfl)))
        repeat (first
          | refine R_seq ?_ | refine R_region ?_ | refine R_nil ?_ | refine Q_seq ?_ | refine Q_norm ?_ | refine Q_seqr ?_ | refine Q_seqx ?_ | refine Q_bl ?_ | refine Q_blr ?_ | refine Q_blx ?_ | refine Q_blo rfl ?_ | refine R_block ?_ | refine R_skip ?_ | refine R_exit ?_ | refine R_ret ?_ | refine I_true ?_ | refine I_false ?_ | refine N_exit ?_ | refine N_ret ?_
          | ((first | apply R_op | apply R_op0)
             · (first | (simp (maxDischargeDepth := 9) only [RA, Nat.reduceEqDiff, Nat.reduceLT, Nat.reduceLeDiff, Nat.reduceAdd, Nat.reduceSub, Nat.reduceMul, Nat.reduceDiv, Nat.reduceMod, Nat.reducePow, Nat.reduceBEq, Nat.reduceGT, reduceIte, T1, T3, T9, T30, T38, T66] <;> rfl) | ((repeat (first | (simp (maxDischargeDepth := 9) only [RA, Nat.reduceEqDiff, Nat.reduceLT, Nat.reduceLeDiff, Nat.reduceAdd, Nat.reduceSub, Nat.reduceMul, Nat.reduceDiv, Nat.reduceMod, Nat.reducePow, Nat.reduceBEq, Nat.reduceGT, reduceIte, T1, T3, T9, T30, T38, T66]; done) | simp (maxDischargeDepth := 9) only [RA, Nat.reduceEqDiff, Nat.reduceLT, Nat.reduceLeDiff, Nat.reduceAdd, Nat.reduceSub, Nat.reduceMul, Nat.reduceDiv, Nat.reduceMod, Nat.reducePow, Nat.reduceBEq, Nat.reduceGT, reduceIte, T1, T3, T9, T30, T38, T66] | simp (disch := first | assumption | omega) only [RV, T1, T3, T9, T30, T38, T66])) <;> rfl)))
          | (apply R_cond
             · (simp only [RE, Nat.reduceEqDiff, Nat.reduceLT, Nat.reduceLeDiff, Nat.reduceBEq, reduceIte, T1, T3, T9, T30, T38, T66] <;> rfl))
          | (apply R_grd
             · (simp only [yieldedA, RY, Nat.reduceEqDiff, reduceIte, T1, T3, T9, T30, T38, T66] <;> rfl)))
        (first | refine ⟨.inr rfl, _, rfl, ?_⟩ | refine ⟨.inl rfl, _, rfl, ?_⟩) <;> simp only [packR, upd_apply, Nat.reduceEqDiff, if_true, if_false, reduceIte]
  · have hbad : badLen (nv n) := .inl ⟨n, hn, rfl⟩
    repeat (first
      | refine R_seq ?_ | refine R_region ?_ | refine R_nil ?_ | refine Q_seq ?_ | refine Q_norm ?_ | refine Q_seqr ?_ | refine Q_seqx ?_ | refine Q_bl ?_ | refine Q_blr ?_ | refine Q_blx ?_ | refine Q_blo rfl ?_ | refine R_block ?_ | refine R_skip ?_ | refine R_exit ?_ | refine R_ret ?_ | refine I_true ?_ | refine I_false ?_ | refine N_exit ?_ | refine N_ret ?_
      | ((first | apply R_op | apply R_op0)
         · (first | (simp (maxDischargeDepth := 9) only [RA, Nat.reduceEqDiff, Nat.reduceLT, Nat.reduceLeDiff, Nat.reduceAdd, Nat.reduceSub, Nat.reduceMul, Nat.reduceDiv, Nat.reduceMod, Nat.reducePow, Nat.reduceBEq, Nat.reduceGT, reduceIte, e2, hk, hck, nv_gtr n 300, T1, T3, T9, T30, T38, T66] <;> rfl) | ((repeat (first | (simp (maxDischargeDepth := 9) only [RA, Nat.reduceEqDiff, Nat.reduceLT, Nat.reduceLeDiff, Nat.reduceAdd, Nat.reduceSub, Nat.reduceMul, Nat.reduceDiv, Nat.reduceMod, Nat.reducePow, Nat.reduceBEq, Nat.reduceGT, reduceIte, e2, hk, hck, nv_gtr n 300, T1, T3, T9, T30, T38, T66]; done) | simp (maxDischargeDepth := 9) only [RA, Nat.reduceEqDiff, Nat.reduceLT, Nat.reduceLeDiff, Nat.reduceAdd, Nat.reduceSub, Nat.reduceMul, Nat.reduceDiv, Nat.reduceMod, Nat.reducePow, Nat.reduceBEq, Nat.reduceGT, reduceIte, e2, hk, hck, nv_gtr n 300, T1, T3, T9, T30, T38, T66] | simp (disch := first | assumption | omega) only [RV, e2, hk, hck, nv_gtr n 300, T1, T3, T9, T30, T38, T66])) <;> rfl)))
      | (apply R_cond
         · (simp only [RE, Nat.reduceEqDiff, Nat.reduceLT, Nat.reduceLeDiff, Nat.reduceBEq, reduceIte, e2, hk, hck, nv_gtr n 300, T1, T3, T9, T30, T38, T66] <;> rfl))
      | (apply R_grd
         · (simp only [yieldedA, RY, Nat.reduceEqDiff, reduceIte, e2, hk, hck, nv_gtr n 300, T1, T3, T9, T30, T38, T66] <;> rfl)))
    rw [← hH]
    clear hH
    refine R_fn ?_ (exp72bad 10 H key v2 _ hk hbad) ?_
    · rfl
    intro v3 h3 ⟨hv3, F3⟩
    subst hv3
    have o3 := F3.2 h.nx n0
    rw [o0] at o3
    repeat (first
      | refine R_seq ?_ | refine R_region ?_ | refine R_nil ?_ | refine Q_seq ?_ | refine Q_norm ?_ | refine Q_seqr ?_ | refine Q_seqx ?_ | refine Q_bl ?_ | refine Q_blr ?_ | refine Q_blx ?_ | refine Q_blo rfl ?_ | refine R_block ?_ | refine R_skip ?_ | refine R_exit ?_ | refine R_ret ?_ | refine I_true ?_ | refine I_false ?_ | refine N_exit ?_ | refine N_ret ?_
      | ((first | apply R_op | apply R_op0)
         · (first | (simp (maxDischargeDepth := 9) only [RA, Nat.reduceEqDiff, Nat.reduceLT, Nat.reduceLeDiff, Nat.reduceAdd, Nat.reduceSub, Nat.reduceMul, Nat.reduceDiv, Nat.reduceMod, Nat.reducePow, Nat.reduceBEq, Nat.reduceGT, reduceIte, o3, hck, T1, T3, T9, T30, T38, T66] <;> rfl) | ((repeat (first | (simp (maxDischargeDepth := 9) only [RA, Nat.reduceEqDiff, Nat.reduceLT, Nat.reduceLeDiff, Nat.reduceAdd, Nat.reduceSub, Nat.reduceMul, Nat.reduceDiv, Nat.reduceMod, Nat.reducePow, Nat.reduceBEq, Nat.reduceGT, reduceIte, o3, hck, T1, T3, T9, T30, T38, T66]; done) | simp (maxDischargeDepth := 9) only [RA, Nat.reduceEqDiff, Nat.reduceLT, Nat.reduceLeDiff, Nat.reduceAdd, Nat.reduceSub, Nat.reduceMul, Nat.reduceDiv, Nat.reduceMod, Nat.reducePow, Nat.reduceBEq, Nat.reduceGT, reduceIte, o3, hck, T1, T3, T9, T30, T38, T66] | simp (disch := first | assumption | omega) only [RV, o3, hck, T1, T3, T9, T30, T38, T66])) <;> rfl)))
      | (apply R_cond
         · (simp only [RE, Nat.reduceEqDiff, Nat.reduceLT, Nat.reduceLeDiff, Nat.reduceBEq, reduceIte, o3, hck, T1, T3, T9, T30, T38, T66] <;> rfl))
      | (apply R_grd
         · (simp only [yieldedA, RY, Nat.reduceEqDiff, reduceIte, o3, hck, T1, T3, T9, T30, T38, T66] <;> rfl)))
    refine R_fn ?_ (exp74bad 10 h3 key v2 _ hk hbad) ?_
    · rfl
    intro v4 h4 ⟨hv4, F4⟩
    subst hv4
    have b34 : By h4 (.slice none 0 0) [] := by_nil
    have b4 := b34
    have o4 := F4.2 h.nx (by have := F3.1; omega)
    rw [o3] at o4
    have b24 : By h4 v2 b := (b2.fr0 F3).fr0 F4
    have n4 : h.nx < h4.nx := by have := F3.1; have := F4.1; omega
    have bk4 : By h4 (.slice (some ⟨h.nx, 0, none⟩) 32 32) key := by_row (k := .rw) n4 o4 (Nat.le_refl _) hk
    repeat (first
      | refine R_seq ?_ | refine R_region ?_ | refine R_nil ?_ | refine Q_seq ?_ | refine Q_norm ?_ | refine Q_seqr ?_ | refine Q_seqx ?_ | refine Q_bl ?_ | refine Q_blr ?_ | refine Q_blx ?_ | refine Q_blo rfl ?_ | refine R_block ?_ | refine R_skip ?_ | refine R_exit ?_ | refine R_ret ?_ | refine I_true ?_ | refine I_false ?_ | refine N_exit ?_ | refine N_ret ?_
      | ((first | apply R_op | apply R_op0)
         · (first | (simp (maxDischargeDepth := 9) only [RA, Nat.reduceEqDiff, Nat.reduceLT, Nat.reduceLeDiff, Nat.reduceAdd, Nat.reduceSub, Nat.reduceMul, Nat.reduceDiv, Nat.reduceMod, Nat.reducePow, Nat.reduceBEq, Nat.reduceGT, reduceIte, T1, T3, T9, T30, T38, T66] <;> rfl) | ((repeat (first | (simp (maxDischargeDepth := 9) only [RA, Nat.reduceEqDiff, Nat.reduceLT, Nat.reduceLeDiff, Nat.reduceAdd, Nat.reduceSub, Nat.reduceMul, Nat.reduceDiv, Nat.reduceMod, Nat.reducePow, Nat.reduceBEq, Nat.reduceGT, reduceIte, T1, T3, T9, T30, T38, T66]; done) | simp (maxDischargeDepth := 9) only [RA, Nat.reduceEqDiff, Nat.reduceLT, Nat.reduceLeDiff, Nat.reduceAdd, Nat.reduceSub, Nat.reduceMul, Nat.reduceDiv, Nat.reduceMod, Nat.reducePow, Nat.reduceBEq, Nat.reduceGT, reduceIte, T1, T3, T9, T30, T38, T66] | simp (disch := first | assumption | omega) only [RV, T1, T3, T9, T30, T38, T66])) <;> rfl)))
      | (apply R_cond
         · (simp only [RE, Nat.reduceEqDiff, Nat.reduceLT, Nat.reduceLeDiff, Nat.reduceBEq, reduceIte, T1, T3, T9, T30, T38, T66] <;> rfl))
      | (apply R_grd
         · (simp only [yieldedA, RY, Nat.reduceEqDiff, reduceIte, T1, T3, T9, T30, T38, T66] <;> rfl)))
    refine D_draw [0, 3, 5, 15, 16, 18, 19] (fun _ => True) (by kernel_rfl) ?_
    repeat (first
      | refine D_nil ?_ | refine I_true ?_ | refine I_false ?_
      | ((first | apply D_op | apply D_op0)
         · (first | (simp (maxDischargeDepth := 9) only [RA, Nat.reduceEqDiff, Nat.reduceLT, Nat.reduceLeDiff, Nat.reduceAdd, Nat.reduceSub, Nat.reduceMul, Nat.reduceDiv, Nat.reduceMod, Nat.reducePow, Nat.reduceBEq, Nat.reduceGT, reduceIte, live70 0, S38str b34, S38str b4, RF, str_eql, T1, T3, T9, T30, T38, T66] <;> rfl) | ((repeat (first | (simp (maxDischargeDepth := 9) only [RA, Nat.reduceEqDiff, Nat.reduceLT, Nat.reduceLeDiff, Nat.reduceAdd, Nat.reduceSub, Nat.reduceMul, Nat.reduceDiv, Nat.reduceMod, Nat.reducePow, Nat.reduceBEq, Nat.reduceGT, reduceIte, live70 0, S38str b34, S38str b4, RF, str_eql, T1, T3, T9, T30, T38, T66]; done) | simp (maxDischargeDepth := 9) only [RA, Nat.reduceEqDiff, Nat.reduceLT, Nat.reduceLeDiff, Nat.reduceAdd, Nat.reduceSub, Nat.reduceMul, Nat.reduceDiv, Nat.reduceMod, Nat.reducePow, Nat.reduceBEq, Nat.reduceGT, reduceIte, live70 0, S38str b34, S38str b4, RF, str_eql, T1, T3, T9, T30, T38, T66] | simp (disch := first | assumption | omega) only [RV, live70 0, S38str b34, S38str b4, RF, str_eql, T1, T3, T9, T30, T38, T66])) <;> rfl))
         · (intro hF; first | exact chk_pure rfl | exact chk_alloc rfl | exact chk_read rfl | exact chk_iso iso69 | exact chk_call iso69 (fun _ _ _ => rfl) | exact chk_iso iso70 | exact chk_call iso70 (fun _ _ _ => rfl) | exact chk_iso iso72 | exact chk_call iso72 (fun _ _ _ => rfl) | exact chk_iso iso74 | exact chk_call iso74 (fun _ _ _ => rfl) | exact chk_iso iso75 | exact chk_call iso75 (fun _ _ _ => rfl) | exact chk_iso iso76 | exact chk_call iso76 (fun _ _ _ => rfl) | (exfalso; revert hF; decide) | ((first | refine chk_load ?_ | refine chk_slice ?_ | refine chk_convert ?_ | refine chk_store ?_ | refine chk_call (by kernel_rfl) ?_); simp only [eq_self, ev_tmp, upd_apply, rowsOfV, List.mem_cons, List.not_mem_nil, or_false, forall_eq, forall_eq_or_imp, obj_put, obj_new, nx_new, nx_put, Nat.reduceEqDiff, if_true, if_false, reduceIte, implies_true, and_self, and_true, true_or, or_true, live70 0, S38str b34, S38str b4, RF, str_eql, T1, T3, T9, T30, T38, T66])))
      | (apply D_grd
         · (simp only [yieldedA, RY, Nat.reduceEqDiff, reduceIte, live70 0, S38str b34, S38str b4, RF, str_eql, T1, T3, T9, T30, T38, T66] <;> rfl)))
    refine D_fn ?_ (ext75 1 h4 v2 (.slice (some ⟨h.nx, 0, none⟩) 32 32) b key b24 bk4 (by omega) (by omega)) iso75 (fun v4 h4 hp _ r _ hr => hp.2.2 r hr) ?_
    · rfl
    intro v5 h5 ⟨hv5, F5⟩
    subst hv5
    repeat (first
      | refine D_nil ?_ | refine I_true ?_ | refine I_false ?_
      | ((first | apply D_op | apply D_op0)
         · (first | (simp (maxDischargeDepth := 9) only [RA, Nat.reduceEqDiff, Nat.reduceLT, Nat.reduceLeDiff, Nat.reduceAdd, Nat.reduceSub, Nat.reduceMul, Nat.reduceDiv, Nat.reduceMod, Nat.reducePow, Nat.reduceBEq, Nat.reduceGT, reduceIte, T1, T3, T9, T30, T38, T66] <;> rfl) | ((repeat (first | (simp (maxDischargeDepth := 9) only [RA, Nat.reduceEqDiff, Nat.reduceLT, Nat.reduceLeDiff, Nat.reduceAdd, Nat.reduceSub, Nat.reduceMul, Nat.reduceDiv, Nat.reduceMod, Nat.reducePow, Nat.reduceBEq, Nat.reduceGT, reduceIte, T1, T3, T9, T30, T38, T66]; done) | simp (maxDischargeDepth := 9) only [RA, Nat.reduceEqDiff, Nat.reduceLT, Nat.reduceLeDiff, Nat.reduceAdd, Nat.reduceSub, Nat.reduceMul, Nat.reduceDiv, Nat.reduceMod, Nat.reducePow, Nat.reduceBEq, Nat.reduceGT, reduceIte, T1, T3, T9, T30, T38, T66] | simp (disch := first | assumption | omega) only [RV, T1, T3, T9, T30, T38, T66])) <;> rfl))
         · (intro hF; first | exact chk_pure rfl | exact chk_alloc rfl | exact chk_read rfl | exact chk_iso iso69 | exact chk_call iso69 (fun _ _ _ => rfl) | exact chk_iso iso70 | exact chk_call iso70 (fun _ _ _ => rfl) | exact chk_iso iso72 | exact chk_call iso72 (fun _ _ _ => rfl) | exact chk_iso iso74 | exact chk_call iso74 (fun _ _ _ => rfl) | exact chk_iso iso75 | exact chk_call iso75 (fun _ _ _ => rfl) | exact chk_iso iso76 | exact chk_call iso76 (fun _ _ _ => rfl) | (exfalso; revert hF; decide) | ((first | refine chk_load ?_ | refine chk_slice ?_ | refine chk_convert ?_ | refine chk_store ?_ | refine chk_call (by kernel_rfl) ?_); simp only [eq_self, ev_tmp, upd_apply, rowsOfV, List.mem_cons, List.not_mem_nil, or_false, forall_eq, forall_eq_or_imp, obj_put, obj_new, nx_new, nx_put, Nat.reduceEqDiff, if_true, if_false, reduceIte, implies_true, and_self, and_true, true_or, or_true, T1, T3, T9, T30, T38, T66])))
      | (apply D_grd
         · (simp only [yieldedA, RY, Nat.reduceEqDiff, reduceIte, T1, T3, T9, T30, T38, T66] <;> rfl)))
    refine D_fn ?_ (ext76 3 h5 v2 (.slice (some ⟨h.nx, 0, none⟩) 32 32) b key (b24.fr0 F5) (bk4.fr0 F5) (by omega) (by omega)) iso76 (fun v4 h4 hp _ r _ hr => hp.2.2 r hr) ?_
    · rfl
    intro v6 h6 ⟨hv6, F6⟩
    subst hv6
    repeat (first
      | refine D_nil ?_ | refine I_true ?_ | refine I_false ?_
      | ((first | apply D_op | apply D_op0)
         · (first | (simp (maxDischargeDepth := 9) only [RA, Nat.reduceEqDiff, Nat.reduceLT, Nat.reduceLeDiff, Nat.reduceAdd, Nat.reduceSub, Nat.reduceMul, Nat.reduceDiv, Nat.reduceMod, Nat.reducePow, Nat.reduceBEq, Nat.reduceGT, reduceIte, beq30 (hmacS_length b key) (hmacS_length b key), T1, T3, T9, T30, T38, T66] <;> rfl) | ((repeat (first | (simp (maxDischargeDepth := 9) only [RA, Nat.reduceEqDiff, Nat.reduceLT, Nat.reduceLeDiff, Nat.reduceAdd, Nat.reduceSub, Nat.reduceMul, Nat.reduceDiv, Nat.reduceMod, Nat.reducePow, Nat.reduceBEq, Nat.reduceGT, reduceIte, beq30 (hmacS_length b key) (hmacS_length b key), T1, T3, T9, T30, T38, T66]; done) | simp (maxDischargeDepth := 9) only [RA, Nat.reduceEqDiff, Nat.reduceLT, Nat.reduceLeDiff, Nat.reduceAdd, Nat.reduceSub, Nat.reduceMul, Nat.reduceDiv, Nat.reduceMod, Nat.reducePow, Nat.reduceBEq, Nat.reduceGT, reduceIte, beq30 (hmacS_length b key) (hmacS_length b key), T1, T3, T9, T30, T38, T66] | simp (disch := first | assumption | omega) only [RV, beq30 (hmacS_length b key) (hmacS_length b key), T1, T3, T9, T30, T38, T66])) <;> rfl))
         · (intro hF; first | exact chk_pure rfl | exact chk_alloc rfl | exact chk_read rfl | exact chk_iso iso69 | exact chk_call iso69 (fun _ _ _ => rfl) | exact chk_iso iso70 | exact chk_call iso70 (fun _ _ _ => rfl) | exact chk_iso iso72 | exact chk_call iso72 (fun _ _ _ => rfl) | exact chk_iso iso74 | exact chk_call iso74 (fun _ _ _ => rfl) | exact chk_iso iso75 | exact chk_call iso75 (fun _ _ _ => rfl) | exact chk_iso iso76 | exact chk_call iso76 (fun _ _ _ => rfl) | (exfalso; revert hF; decide) | ((first | refine chk_load ?_ | refine chk_slice ?_ | refine chk_convert ?_ | refine chk_store ?_ | refine chk_call (by kernel_rfl) ?_); simp only [eq_self, ev_tmp, upd_apply, rowsOfV, List.mem_cons, List.not_mem_nil, or_false, forall_eq, forall_eq_or_imp, obj_put, obj_new, nx_new, nx_put, Nat.reduceEqDiff, if_true, if_false, reduceIte, implies_true, and_self, and_true, true_or, or_true, beq30 (hmacS_length b key) (hmacS_length b key), T1, T3, T9, T30, T38, T66])))
      | (apply D_grd
         · (simp only [yieldedA, RY, Nat.reduceEqDiff, reduceIte, beq30 (hmacS_length b key) (hmacS_length b key), T1, T3, T9, T30, T38, T66] <;> rfl)))
    repeat (first
      | refine R_seq ?_ | refine R_region ?_ | refine R_nil ?_ | refine Q_seq ?_ | refine Q_norm ?_ | refine Q_seqr ?_ | refine Q_seqx ?_ | refine Q_bl ?_ | refine Q_blr ?_ | refine Q_blx ?_ | refine Q_blo rfl ?_ | refine R_block ?_ | refine R_skip ?_ | refine R_exit ?_ | refine R_ret ?_ | refine I_true ?_ | refine I_false ?_ | refine N_exit ?_ | refine N_ret ?_
      | ((first | apply R_op | apply R_op0)
         · (first | (simp (maxDischargeDepth := 9) only [RA, Nat.reduceEqDiff, Nat.reduceLT, Nat.reduceLeDiff, Nat.reduceAdd, Nat.reduceSub, Nat.reduceMul, Nat.reduceDiv, Nat.reduceMod, Nat.reducePow, Nat.reduceBEq, Nat.reduceGT, reduceIte, T1, T3, T9, T30, T38, T66] <;> rfl) | ((repeat (first | (simp (maxDischargeDepth := 9) only [RA, Nat.reduceEqDiff, Nat.reduceLT, Nat.reduceLeDiff, Nat.reduceAdd, Nat.reduceSub, Nat.reduceMul, Nat.reduceDiv, Nat.reduceMod, Nat.reducePow, Nat.reduceBEq, Nat.reduceGT, reduceIte, T1, T3, T9, T30, T38, T66]; done) | simp (maxDischargeDepth := 9) only [RA, Nat.reduceEqDiff, Nat.reduceLT, Nat.reduceLeDiff, Nat.reduceAdd, Nat.reduceSub, Nat.reduceMul, Nat.reduceDiv, Nat.reduceMod, Nat.reducePow, Nat.reduceBEq, Nat.reduceGT, reduceIte, T1, T3, T9, T30, T38, T66] | simp (disch := first | assumption | omega) only [RV, T1, T3, T9, T30, T38, T66])) <;> rfl)))
      | (apply R_cond
         · (simp only [RE, Nat.reduceEqDiff, Nat.reduceLT, Nat.reduceLeDiff, Nat.reduceBEq, reduceIte, T1, T3, T9, T30, T38, T66] <;> rfl))
      | (apply R_grd
         · (simp only [yieldedA, RY, Nat.reduceEqDiff, reduceIte, T1, T3, T9, T30, T38, T66] <;> rfl)))
    (first | refine ⟨.inr rfl, _, rfl, ?_⟩ | refine ⟨.inl rfl, _, rfl, ?_⟩) <;> simp only [packR, upd_apply, Nat.reduceEqDiff, if_true, if_false, reduceIte]
theorem tyvI {h : Heap} {v : Value} (s : TyV Try.prog 8 h 3 v) : (∃ n, n < 9223372036854775808 ∧ v = iv n) ∨ ∃ n, 0 < n ∧ v = nv n := by
  obtain ⟨n, e, h1, h2⟩ := ty_int (d := 7) Try.underlying3 (tyv_one Try.underlying3 rfl s)
  cases e
  by_cases h0 : 0 ≤ n
  · exact .inl ⟨n.toNat, by omega, by unfold iv; rw [Int.toNat_of_nonneg h0]⟩
  · exact .inr ⟨(-n).toNat, by omega, by unfold nv; rw [Int.toNat_of_nonneg (by omega), Int.neg_neg]⟩
theorem wl32 (h : Heap) (avs : List Value) (ty : TyVs Try.prog 8 h [30, 38, 3] avs) : ∃ v h', evF (cfg0 Try.prog) 12 32 avs h = some (.ok v, h') ∧ v = .bool true := by
  match avs, ty with
  | [u, w, z], ⟨s0, s1, s2, _⟩ =>
    obtain ⟨k, hk, rfl⟩ := tyv30 s0
    obtain ⟨ys, hc, _⟩ := tyv38 s1
    exact law32 h k hk w ys hc z (tyvI s2)
end Go.Proofs.Ytfehhihllenjiaa
