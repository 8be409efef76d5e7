/- Tags: more laws. -/
import Derived.Test.YtfehhihllenjiaaJh
set_option linter.all false
namespace Go.Proofs.Ytfehhihllenjiaa
open Go.Proofs
theorem expS32 (key info : List (BitVec 8)) : expS key info 32 = hmacS key (info ++ [1#8]) := by
  unfold expS
  rw [show (32 + 31) / 32 = 1 from rfl, expO_succ, expO_zero, List.nil_append, List.take_of_length_le (by rw [expT_length]; exact Nat.le_refl _), expT_succ, expT_zero, List.nil_append]
theorem expS64 (key info : List (BitVec 8)) : expS key info 64 = hmacS key (info ++ [1#8]) ++ hmacS key (hmacS key (info ++ [1#8]) ++ info ++ [2#8]) := by
  unfold expS
  rw [show (64 + 31) / 32 = 2 from rfl, expO_succ, expO_succ, expO_zero, List.nil_append, List.take_of_length_le (by rw [List.length_append, expT_length, expT_length]; exact Nat.le_refl _), expT_succ, expT_succ key info 1, expT_succ, expT_zero, List.nil_append]
attribute [local irreducible] evOps iter evD evF evC evLoad evStore evAlloc evIndexAddr evIndex evLenB evBox evBin evUn evConvert evExtract evSlice evAppend evCopy evNil evBuild evMakeSlice evBuildSlice evBuiltin Program.underlying
attribute [local irreducible] sumS turnB keyS padK hmacS turnR catN expT expO expS key1
set_option maxRecDepth 20000 in
set_option maxHeartbeats 8000000 in
theorem law29 (h : Heap) (key : List (BitVec 8)) (hk : key.length = 32) (w : Value) (b : List (BitVec 8)) (hb : By h w b) : ∃ v1 h1, evF (cfg0 Try.prog) 12 29 [.agg ⟨b8 key⟩, w] h = some (.ok v1, h1) ∧ v1 = .bool true := by
  rw [evF_eq Try.func29 rfl]
  apply evEnd_of_W
  simp only [Try.f29]
  have hck := fun (kd : Kind) (es : Nat) => cut8 (k := kd) (es := es) hk
  obtain ⟨H, hH⟩ : ∃ H, H = newRowH h .rw 1 (b8 key) := ⟨_, rfl⟩
  obtain ⟨v2, e2, b2, r2⟩ := few69 10 (newRowH h .rw 1 (b8 key)) w b 100 (hb.fr0 (by (repeat (first | assumption | exact Fr.refl _ _ | refine Fr.new ?_ ?_ _ _ _ | refine Fr.put ?_ ?_ _ | omega | (simp only [RH]; omega)))))
  repeat (first
    | refine R_seq ?_ | refine R_region ?_ | refine R_nil ?_ | refine Q_seq ?_ | refine Q_norm ?_ | refine Q_seqr ?_ | refine Q_seqx ?_ | refine Q_bl ?_ | refine Q_blr ?_ | refine Q_blx ?_ | refine Q_blo rfl ?_ | refine R_block ?_ | refine R_skip ?_ | refine R_exit ?_ | refine R_ret ?_ | refine I_true ?_ | refine I_false ?_ | refine N_exit ?_ | refine N_ret ?_
    | ((first | apply R_op | apply R_op0)
       · (first | (simp (maxDischargeDepth := 9) only [RA, Nat.reduceEqDiff, Nat.reduceLT, Nat.reduceLeDiff, Nat.reduceAdd, Nat.reduceSub, Nat.reduceMul, Nat.reduceDiv, Nat.reduceMod, Nat.reducePow, Nat.reduceBEq, Nat.reduceGT, reduceIte, e2, hk, hck, T1, T3, T9, T30, T38, T66] <;> rfl) | ((repeat (first | (simp (maxDischargeDepth := 9) only [RA, Nat.reduceEqDiff, Nat.reduceLT, Nat.reduceLeDiff, Nat.reduceAdd, Nat.reduceSub, Nat.reduceMul, Nat.reduceDiv, Nat.reduceMod, Nat.reducePow, Nat.reduceBEq, Nat.reduceGT, reduceIte, e2, hk, hck, T1, T3, T9, T30, T38, T66]; done) | simp (maxDischargeDepth := 9) only [RA, Nat.reduceEqDiff, Nat.reduceLT, Nat.reduceLeDiff, Nat.reduceAdd, Nat.reduceSub, Nat.reduceMul, Nat.reduceDiv, Nat.reduceMod, Nat.reducePow, Nat.reduceBEq, Nat.reduceGT, reduceIte, e2, hk, hck, T1, T3, T9, T30, T38, T66] | simp (disch := first | assumption | omega) only [RV, e2, hk, hck, T1, T3, T9, T30, T38, T66])) <;> rfl)))
    | (apply R_cond
       · (simp only [RE, Nat.reduceEqDiff, Nat.reduceLT, Nat.reduceLeDiff, Nat.reduceBEq, reduceIte, e2, hk, hck, T1, T3, T9, T30, T38, T66] <;> rfl))
    | (apply R_grd
       · (simp only [yieldedA, RY, Nat.reduceEqDiff, reduceIte, e2, hk, hck, T1, T3, T9, T30, T38, T66] <;> rfl)))
  rw [← hH] at b2 ⊢
  have o0 : H.obj h.nx = some (.row .rw 1 (b8 key)) := by rw [hH]; simp [RH]
  have n0 : h.nx < H.nx := by rw [hH]; simp [RH]
  clear hH
  have hbl : (b.take 100).length ≤ 100 := by simp; omega
  generalize b.take 100 = b at b2 hbl
  refine R_fn ?_ (exp72 1 H key v2 b 32 hk b2 (by omega) (by decide)) ?_
  · rfl
  intro v3 h3 ⟨⟨u3, hv3, b3⟩, F3⟩
  subst hv3
  have n3 := F3.1
  have o3 := F3.2 h.nx n0
  rw [o0] at o3
  have b23 : By h3 v2 b := b2.fr0 F3
  rw [expS32] at b3
  repeat (first
    | refine R_seq ?_ | refine R_region ?_ | refine R_nil ?_ | refine Q_seq ?_ | refine Q_norm ?_ | refine Q_seqr ?_ | refine Q_seqx ?_ | refine Q_bl ?_ | refine Q_blr ?_ | refine Q_blx ?_ | refine Q_blo rfl ?_ | refine R_block ?_ | refine R_skip ?_ | refine R_exit ?_ | refine R_ret ?_ | refine I_true ?_ | refine I_false ?_ | refine N_exit ?_ | refine N_ret ?_
    | ((first | apply R_op | apply R_op0)
       · (first | (simp (maxDischargeDepth := 9) only [RA, Nat.reduceEqDiff, Nat.reduceLT, Nat.reduceLeDiff, Nat.reduceAdd, Nat.reduceSub, Nat.reduceMul, Nat.reduceDiv, Nat.reduceMod, Nat.reducePow, Nat.reduceBEq, Nat.reduceGT, reduceIte, T1, T3, T9, T30, T38, T66] <;> rfl) | ((repeat (first | (simp (maxDischargeDepth := 9) only [RA, Nat.reduceEqDiff, Nat.reduceLT, Nat.reduceLeDiff, Nat.reduceAdd, Nat.reduceSub, Nat.reduceMul, Nat.reduceDiv, Nat.reduceMod, Nat.reducePow, Nat.reduceBEq, Nat.reduceGT, reduceIte, T1, T3, T9, T30, T38, T66]; done) | simp (maxDischargeDepth := 9) only [RA, Nat.reduceEqDiff, Nat.reduceLT, Nat.reduceLeDiff, Nat.reduceAdd, Nat.reduceSub, Nat.reduceMul, Nat.reduceDiv, Nat.reduceMod, Nat.reducePow, Nat.reduceBEq, Nat.reduceGT, reduceIte, T1, T3, T9, T30, T38, T66] | simp (disch := first | assumption | omega) only [RV, T1, T3, T9, T30, T38, T66])) <;> rfl)))
    | (apply R_cond
       · (simp only [RE, Nat.reduceEqDiff, Nat.reduceLT, Nat.reduceLeDiff, Nat.reduceBEq, reduceIte, T1, T3, T9, T30, T38, T66] <;> rfl))
    | (apply R_grd
       · (simp only [yieldedA, RY, Nat.reduceEqDiff, reduceIte, T1, T3, T9, T30, T38, T66] <;> rfl)))
  have hS : h.nx < h3.nx := by omega
  refine D_draw [0, 3, 5] (fun r => r < h3.nx) (by kernel_rfl) ?_
  repeat (first
    | refine D_nil ?_ | refine I_true ?_ | refine I_false ?_
    | ((first | apply D_op | apply D_op0)
       · (first | (simp (maxDischargeDepth := 9) only [RA, Nat.reduceEqDiff, Nat.reduceLT, Nat.reduceLeDiff, Nat.reduceAdd, Nat.reduceSub, Nat.reduceMul, Nat.reduceDiv, Nat.reduceMod, Nat.reducePow, Nat.reduceBEq, Nat.reduceGT, reduceIte, hS, T1, T3, T9, T30, T38, T66] <;> rfl) | ((repeat (first | (simp (maxDischargeDepth := 9) only [RA, Nat.reduceEqDiff, Nat.reduceLT, Nat.reduceLeDiff, Nat.reduceAdd, Nat.reduceSub, Nat.reduceMul, Nat.reduceDiv, Nat.reduceMod, Nat.reducePow, Nat.reduceBEq, Nat.reduceGT, reduceIte, hS, T1, T3, T9, T30, T38, T66]; done) | simp (maxDischargeDepth := 9) only [RA, Nat.reduceEqDiff, Nat.reduceLT, Nat.reduceLeDiff, Nat.reduceAdd, Nat.reduceSub, Nat.reduceMul, Nat.reduceDiv, Nat.reduceMod, Nat.reducePow, Nat.reduceBEq, Nat.reduceGT, reduceIte, hS, T1, T3, T9, T30, T38, T66] | simp (disch := first | assumption | omega) only [RV, hS, T1, T3, T9, T30, T38, T66])) <;> rfl))
       · (intro hF; first | exact chk_pure rfl | exact chk_alloc rfl | exact chk_read rfl | exact chk_iso iso68 | exact chk_call iso68 (fun _ _ _ => rfl) | exact chk_iso iso69 | exact chk_call iso69 (fun _ _ _ => rfl) | exact chk_iso iso70 | exact chk_call iso70 (fun _ _ _ => rfl) | exact chk_iso iso72 | exact chk_call iso72 (fun _ _ _ => rfl) | (exfalso; revert hF; decide) | ((first | refine chk_load ?_ | refine chk_slice ?_ | refine chk_convert ?_ | refine chk_store ?_ | refine chk_call (by kernel_rfl) ?_); simp only [eq_self, ev_tmp, upd_apply, rowsOfV, List.mem_cons, List.not_mem_nil, or_false, forall_eq, forall_eq_or_imp, obj_put, obj_new, nx_new, nx_put, Nat.reduceEqDiff, if_true, if_false, reduceIte, implies_true, and_self, and_true, true_or, or_true, hS, T1, T3, T9, T30, T38, T66])))
    | (apply D_grd
       · (simp only [yieldedA, RY, Nat.reduceEqDiff, reduceIte, hS, T1, T3, T9, T30, T38, T66] <;> rfl)))
  refine D_app E38 Try.underlying38 (v := emptyS) (w := v2) (lo := h3.nx) (xs := []) (ys := b) ?_ ?_ .empty b23 (Nat.le_refl _) (by simp; omega) (fun v' h' own wt _ r _ hr => wt.rest r hr (by simp [rowsOfV, emptyS])) ?_
  · first | rfl | (first | rw [ev_tmp] | rw [ev_const] | skip) <;> simp only [upd_apply, Nat.reduceEqDiff, if_true, if_false, reduceIte, lit_iv, lit_w8]
  · first | rfl | (first | rw [ev_tmp] | rw [ev_const] | skip) <;> simp only [upd_apply, Nat.reduceEqDiff, if_true, if_false, reduceIte, lit_iv, lit_w8]
  intro v4 h4 own4 wt4
  rw [List.nil_append] at own4
  have n4 := wt4.nx
  have F4 : Fr h3.nx h3 h4 := wt4.fr (Nat.le_refl _) (fun r hr => by simp [rowsOfV, emptyS] at hr)
  repeat (first
    | refine D_nil ?_ | refine I_true ?_ | refine I_false ?_
    | ((first | apply D_op | apply D_op0)
       · (first | (simp (maxDischargeDepth := 9) only [RA, Nat.reduceEqDiff, Nat.reduceLT, Nat.reduceLeDiff, Nat.reduceAdd, Nat.reduceSub, Nat.reduceMul, Nat.reduceDiv, Nat.reduceMod, Nat.reducePow, Nat.reduceBEq, Nat.reduceGT, reduceIte, T1, T3, T9, T30, T38, T66] <;> rfl) | ((repeat (first | (simp (maxDischargeDepth := 9) only [RA, Nat.reduceEqDiff, Nat.reduceLT, Nat.reduceLeDiff, Nat.reduceAdd, Nat.reduceSub, Nat.reduceMul, Nat.reduceDiv, Nat.reduceMod, Nat.reducePow, Nat.reduceBEq, Nat.reduceGT, reduceIte, T1, T3, T9, T30, T38, T66]; done) | simp (maxDischargeDepth := 9) only [RA, Nat.reduceEqDiff, Nat.reduceLT, Nat.reduceLeDiff, Nat.reduceAdd, Nat.reduceSub, Nat.reduceMul, Nat.reduceDiv, Nat.reduceMod, Nat.reducePow, Nat.reduceBEq, Nat.reduceGT, reduceIte, T1, T3, T9, T30, T38, T66] | simp (disch := first | assumption | omega) only [RV, T1, T3, T9, T30, T38, T66])) <;> rfl))
       · (intro hF; first | exact chk_pure rfl | exact chk_alloc rfl | exact chk_read rfl | exact chk_iso iso68 | exact chk_call iso68 (fun _ _ _ => rfl) | exact chk_iso iso69 | exact chk_call iso69 (fun _ _ _ => rfl) | exact chk_iso iso70 | exact chk_call iso70 (fun _ _ _ => rfl) | exact chk_iso iso72 | exact chk_call iso72 (fun _ _ _ => rfl) | (exfalso; revert hF; decide) | ((first | refine chk_load ?_ | refine chk_slice ?_ | refine chk_convert ?_ | refine chk_store ?_ | refine chk_call (by kernel_rfl) ?_); simp only [eq_self, ev_tmp, upd_apply, rowsOfV, List.mem_cons, List.not_mem_nil, or_false, forall_eq, forall_eq_or_imp, obj_put, obj_new, nx_new, nx_put, Nat.reduceEqDiff, if_true, if_false, reduceIte, implies_true, and_self, and_true, true_or, or_true, T1, T3, T9, T30, T38, T66])))
    | (apply D_grd
       · (simp only [yieldedA, RY, Nat.reduceEqDiff, reduceIte, T1, T3, T9, T30, T38, T66] <;> rfl)))
  refine D_app E38 Try.underlying38 (v := v4) (w := .slice (some ⟨h4.nx, 0, none⟩) 1 1) (lo := h3.nx) (xs := b) (ys := [1#8]) ?_ ?_ own4.new one_by (by simp only [RH]; omega) (by simp; omega) (fun v' h' own wt _ r hS hr => wt.rest r hr (fun hm => by have := (own4.rows _ hm).1; omega)) ?_
  · first | rfl | (first | rw [ev_tmp] | rw [ev_const] | skip) <;> simp only [upd_apply, Nat.reduceEqDiff, if_true, if_false, reduceIte, lit_iv, lit_w8]
  · first | rfl | (first | rw [ev_tmp] | rw [ev_const] | skip) <;> simp only [upd_apply, Nat.reduceEqDiff, if_true, if_false, reduceIte, lit_iv, lit_w8]
  intro v5 h5 own5 wt5
  have n5 := wt5.nx
  simp only [RH] at n5
  have F5 : Fr h3.nx h3 h5 := F4.trans ((Fr.new (.refl _ _) (by omega) _ _ _).trans (wt5.owFr (by simp only [RH]; omega) own4.new))
  have o5 : h5.obj h.nx = some (.row .rw 1 (b8 key)) := by rw [F5.2 _ (by omega)]; exact o3
  have b35 : By h5 u3 _ := b3.fr0 F5
  repeat (first
    | refine D_nil ?_ | refine I_true ?_ | refine I_false ?_
    | ((first | apply D_op | apply D_op0)
       · (first | (simp (maxDischargeDepth := 9) only [RA, Nat.reduceEqDiff, Nat.reduceLT, Nat.reduceLeDiff, Nat.reduceAdd, Nat.reduceSub, Nat.reduceMul, Nat.reduceDiv, Nat.reduceMod, Nat.reducePow, Nat.reduceBEq, Nat.reduceGT, reduceIte, T1, T3, T9, T30, T38, T66] <;> rfl) | ((repeat (first | (simp (maxDischargeDepth := 9) only [RA, Nat.reduceEqDiff, Nat.reduceLT, Nat.reduceLeDiff, Nat.reduceAdd, Nat.reduceSub, Nat.reduceMul, Nat.reduceDiv, Nat.reduceMod, Nat.reducePow, Nat.reduceBEq, Nat.reduceGT, reduceIte, T1, T3, T9, T30, T38, T66]; done) | simp (maxDischargeDepth := 9) only [RA, Nat.reduceEqDiff, Nat.reduceLT, Nat.reduceLeDiff, Nat.reduceAdd, Nat.reduceSub, Nat.reduceMul, Nat.reduceDiv, Nat.reduceMod, Nat.reducePow, Nat.reduceBEq, Nat.reduceGT, reduceIte, T1, T3, T9, T30, T38, T66] | simp (disch := first | assumption | omega) only [RV, T1, T3, T9, T30, T38, T66])) <;> rfl))
       · (intro hF; first | exact chk_pure rfl | exact chk_alloc rfl | exact chk_read rfl | exact chk_iso iso68 | exact chk_call iso68 (fun _ _ _ => rfl) | exact chk_iso iso69 | exact chk_call iso69 (fun _ _ _ => rfl) | exact chk_iso iso70 | exact chk_call iso70 (fun _ _ _ => rfl) | exact chk_iso iso72 | exact chk_call iso72 (fun _ _ _ => rfl) | (exfalso; revert hF; decide) | ((first | refine chk_load ?_ | refine chk_slice ?_ | refine chk_convert ?_ | refine chk_store ?_ | refine chk_call (by kernel_rfl) ?_); simp only [eq_self, ev_tmp, upd_apply, rowsOfV, List.mem_cons, List.not_mem_nil, or_false, forall_eq, forall_eq_or_imp, obj_put, obj_new, nx_new, nx_put, Nat.reduceEqDiff, if_true, if_false, reduceIte, implies_true, and_self, and_true, true_or, or_true, T1, T3, T9, T30, T38, T66])))
    | (apply D_grd
       · (simp only [yieldedA, RY, Nat.reduceEqDiff, reduceIte, T1, T3, T9, T30, T38, T66] <;> rfl)))
  refine D_fn ?_ (hmac68 2 h5 (.slice (some ⟨h.nx, 0, none⟩) 32 32) v5 key (b ++ [1#8]) (by_row (k := .rw) (by omega) o5 (Nat.le_refl _) hk) own5.sl (by omega) (by simp; omega)) iso68 (fun v4 h4 hp _ r _ hr => hp.2.2 r hr) ?_
  · rfl
  intro v6 h6 ⟨hv6, F6⟩
  subst hv6
  have hl := hmacS_length key (b ++ [1#8])
  have hp8 := fun (H : Heap) (p : Nat) => puts8 (h := H) (b := p) (es := 1) hl (List.length_replicate (n := 32) (a := 0#8))
  have b36 : By h6 u3 _ := b35.fr0 F6
  repeat (first
    | refine D_nil ?_ | refine I_true ?_ | refine I_false ?_
    | ((first | apply D_op | apply D_op0)
       · (first | (simp (maxDischargeDepth := 9) only [RA, Nat.reduceEqDiff, Nat.reduceLT, Nat.reduceLeDiff, Nat.reduceAdd, Nat.reduceSub, Nat.reduceMul, Nat.reduceDiv, Nat.reduceMod, Nat.reducePow, Nat.reduceBEq, Nat.reduceGT, reduceIte, hp8, rep8, T1, T3, T9, T30, T38, T66] <;> rfl) | ((repeat (first | (simp (maxDischargeDepth := 9) only [RA, Nat.reduceEqDiff, Nat.reduceLT, Nat.reduceLeDiff, Nat.reduceAdd, Nat.reduceSub, Nat.reduceMul, Nat.reduceDiv, Nat.reduceMod, Nat.reducePow, Nat.reduceBEq, Nat.reduceGT, reduceIte, hp8, rep8, T1, T3, T9, T30, T38, T66]; done) | simp (maxDischargeDepth := 9) only [RA, Nat.reduceEqDiff, Nat.reduceLT, Nat.reduceLeDiff, Nat.reduceAdd, Nat.reduceSub, Nat.reduceMul, Nat.reduceDiv, Nat.reduceMod, Nat.reducePow, Nat.reduceBEq, Nat.reduceGT, reduceIte, hp8, rep8, T1, T3, T9, T30, T38, T66] | simp (disch := first | assumption | omega) only [RV, hp8, rep8, T1, T3, T9, T30, T38, T66])) <;> rfl))
       · (intro hF; first | exact chk_pure rfl | exact chk_alloc rfl | exact chk_read rfl | exact chk_iso iso68 | exact chk_call iso68 (fun _ _ _ => rfl) | exact chk_iso iso69 | exact chk_call iso69 (fun _ _ _ => rfl) | exact chk_iso iso70 | exact chk_call iso70 (fun _ _ _ => rfl) | exact chk_iso iso72 | exact chk_call iso72 (fun _ _ _ => rfl) | (exfalso; revert hF; decide) | ((first | refine chk_load ?_ | refine chk_slice ?_ | refine chk_convert ?_ | refine chk_store ?_ | refine chk_call (by kernel_rfl) ?_); simp only [eq_self, ev_tmp, upd_apply, rowsOfV, List.mem_cons, List.not_mem_nil, or_false, forall_eq, forall_eq_or_imp, obj_put, obj_new, nx_new, nx_put, Nat.reduceEqDiff, if_true, if_false, reduceIte, implies_true, and_self, and_true, true_or, or_true, hp8, rep8, T1, T3, T9, T30, T38, T66])))
    | (apply D_grd
       · (simp only [yieldedA, RY, Nat.reduceEqDiff, reduceIte, hp8, rep8, T1, T3, T9, T30, T38, T66] <;> rfl)))
  repeat (first
    | refine R_seq ?_ | refine R_region ?_ | refine R_nil ?_ | refine Q_seq ?_ | refine Q_norm ?_ | refine Q_seqr ?_ | refine Q_seqx ?_ | refine Q_bl ?_ | refine Q_blr ?_ | refine Q_blx ?_ | refine Q_blo rfl ?_ | refine R_block ?_ | refine R_skip ?_ | refine R_exit ?_ | refine R_ret ?_ | refine I_true ?_ | refine I_false ?_ | refine N_exit ?_ | refine N_ret ?_
    | ((first | apply R_op | apply R_op0)
       · (first | (simp (maxDischargeDepth := 9) only [RA, Nat.reduceEqDiff, Nat.reduceLT, Nat.reduceLeDiff, Nat.reduceAdd, Nat.reduceSub, Nat.reduceMul, Nat.reduceDiv, Nat.reduceMod, Nat.reducePow, Nat.reduceBEq, Nat.reduceGT, reduceIte, T1, T3, T9, T30, T38, T66] <;> rfl) | ((repeat (first | (simp (maxDischargeDepth := 9) only [RA, Nat.reduceEqDiff, Nat.reduceLT, Nat.reduceLeDiff, Nat.reduceAdd, Nat.reduceSub, Nat.reduceMul, Nat.reduceDiv, Nat.reduceMod, Nat.reducePow, Nat.reduceBEq, Nat.reduceGT, reduceIte, T1, T3, T9, T30, T38, T66]; done) | simp (maxDischargeDepth := 9) only [RA, Nat.reduceEqDiff, Nat.reduceLT, Nat.reduceLeDiff, Nat.reduceAdd, Nat.reduceSub, Nat.reduceMul, Nat.reduceDiv, Nat.reduceMod, Nat.reducePow, Nat.reduceBEq, Nat.reduceGT, reduceIte, T1, T3, T9, T30, T38, T66] | simp (disch := first | assumption | omega) only [RV, T1, T3, T9, T30, T38, T66])) <;> rfl)))
    | (apply R_cond
       · (simp only [RE, Nat.reduceEqDiff, Nat.reduceLT, Nat.reduceLeDiff, Nat.reduceBEq, reduceIte, T1, T3, T9, T30, T38, T66] <;> rfl))
    | (apply R_grd
       · (simp only [yieldedA, RY, Nat.reduceEqDiff, reduceIte, T1, T3, T9, T30, T38, T66] <;> rfl)))
  obtain ⟨H2, hH2⟩ : ∃ H, H = (newRowH h6 .rw 1 (b8 (List.replicate 32 0#8))).put h6.nx (some (AObj.row .rw 1 (b8 (hmacS key (b ++ [1#8]))))) := ⟨_, rfl⟩
  rw [← hH2]
  have oM : H2.obj h6.nx = some (.row .rw 1 (b8 (hmacS key (b ++ [1#8])))) := by rw [hH2]; simp [RH]
  have nM : h6.nx < H2.nx := by rw [hH2]; simp [RH]
  have FM : Fr h6.nx h6 H2 := by rw [hH2]; (repeat (first | assumption | exact Fr.refl _ _ | refine Fr.new ?_ ?_ _ _ _ | refine Fr.put ?_ ?_ _ | omega | (simp only [RH]; omega)))
  clear hH2
  have bM : By H2 (.slice (some ⟨h6.nx, 0, none⟩) 32 32) (hmacS key (b ++ [1#8])) := by_row (k := .rw) nM oM (Nat.le_refl _) hl
  have b37 : By H2 u3 _ := b36.fr0 FM
  repeat (first
    | refine R_seq ?_ | refine R_region ?_ | refine R_nil ?_ | refine Q_seq ?_ | refine Q_norm ?_ | refine Q_seqr ?_ | refine Q_seqx ?_ | refine Q_bl ?_ | refine Q_blr ?_ | refine Q_blx ?_ | refine Q_blo rfl ?_ | refine R_block ?_ | refine R_skip ?_ | refine R_exit ?_ | refine R_ret ?_ | refine I_true ?_ | refine I_false ?_ | refine N_exit ?_ | refine N_ret ?_
    | (refine R_draw (by kernel_rfl) ?_)
    | ((first | apply R_op | apply R_op0)
       · (first | (simp (maxDischargeDepth := 9) only [RA, Nat.reduceEqDiff, Nat.reduceLT, Nat.reduceLeDiff, Nat.reduceAdd, Nat.reduceSub, Nat.reduceMul, Nat.reduceDiv, Nat.reduceMod, Nat.reducePow, Nat.reduceBEq, Nat.reduceGT, reduceIte, live70 0, S38str b37, S38str bM, RF, str_eql, T1, T3, T9, T30, T38, T66] <;> rfl) | ((repeat (first | (simp (maxDischargeDepth := 9) only [RA, Nat.reduceEqDiff, Nat.reduceLT, Nat.reduceLeDiff, Nat.reduceAdd, Nat.reduceSub, Nat.reduceMul, Nat.reduceDiv, Nat.reduceMod, Nat.reducePow, Nat.reduceBEq, Nat.reduceGT, reduceIte, live70 0, S38str b37, S38str bM, RF, str_eql, T1, T3, T9, T30, T38, T66]; done) | simp (maxDischargeDepth := 9) only [RA, Nat.reduceEqDiff, Nat.reduceLT, Nat.reduceLeDiff, Nat.reduceAdd, Nat.reduceSub, Nat.reduceMul, Nat.reduceDiv, Nat.reduceMod, Nat.reducePow, Nat.reduceBEq, Nat.reduceGT, reduceIte, live70 0, S38str b37, S38str bM, RF, str_eql, T1, T3, T9, T30, T38, T66] | simp (disch := first | assumption | omega) only [RV, live70 0, S38str b37, S38str bM, RF, str_eql, T1, T3, T9, T30, T38, T66])) <;> rfl)))
    | (apply R_cond
       · (simp only [RE, Nat.reduceEqDiff, Nat.reduceLT, Nat.reduceLeDiff, Nat.reduceBEq, reduceIte, live70 0, S38str b37, S38str bM, RF, str_eql, T1, T3, T9, T30, T38, T66] <;> rfl))
    | (apply R_grd
       · (simp only [yieldedA, RY, Nat.reduceEqDiff, reduceIte, live70 0, S38str b37, S38str bM, RF, str_eql, T1, T3, T9, T30, T38, T66] <;> rfl)))
  (first | refine ⟨.inr rfl, _, rfl, ?_⟩ | refine ⟨.inl rfl, _, rfl, ?_⟩) <;> simp only [packR, upd_apply, Nat.reduceEqDiff, if_true, if_false, reduceIte]
set_option maxRecDepth 20000 in
set_option maxHeartbeats 8000000 in
theorem law31 (h : Heap) (key : List (BitVec 8)) (hk : key.length = 32) (w : Value) (b : List (BitVec 8)) (hb : By h w b) : ∃ v1 h1, evF (cfg0 Try.prog) 12 31 [.agg ⟨b8 key⟩, w] h = some (.ok v1, h1) ∧ v1 = .bool true := by
  rw [evF_eq Try.func31 rfl]
  apply evEnd_of_W
  simp only [Try.f31]
  have hck := fun (kd : Kind) (es : Nat) => cut8 (k := kd) (es := es) hk
  obtain ⟨H, hH⟩ : ∃ H, H = newRowH h .rw 1 (b8 key) := ⟨_, rfl⟩
  obtain ⟨v2, e2, b2, r2⟩ := few60 10 (newRowH h .rw 1 (b8 key)) w b 100 (hb.fr0 (by (repeat (first | assumption | exact Fr.refl _ _ | refine Fr.new ?_ ?_ _ _ _ | refine Fr.put ?_ ?_ _ | omega | (simp only [RH]; omega)))))
  repeat (first
    | refine R_seq ?_ | refine R_region ?_ | refine R_nil ?_ | refine Q_seq ?_ | refine Q_norm ?_ | refine Q_seqr ?_ | refine Q_seqx ?_ | refine Q_bl ?_ | refine Q_blr ?_ | refine Q_blx ?_ | refine Q_blo rfl ?_ | refine R_block ?_ | refine R_skip ?_ | refine R_exit ?_ | refine R_ret ?_ | refine I_true ?_ | refine I_false ?_ | refine N_exit ?_ | refine N_ret ?_
    | ((first | apply R_op | apply R_op0)
       · (first | (simp (maxDischargeDepth := 9) only [RA, Nat.reduceEqDiff, Nat.reduceLT, Nat.reduceLeDiff, Nat.reduceAdd, Nat.reduceSub, Nat.reduceMul, Nat.reduceDiv, Nat.reduceMod, Nat.reducePow, Nat.reduceBEq, Nat.reduceGT, reduceIte, e2, hk, T1, T3, T30, T38, T66] <;> rfl) | ((repeat (first | (simp (maxDischargeDepth := 9) only [RA, Nat.reduceEqDiff, Nat.reduceLT, Nat.reduceLeDiff, Nat.reduceAdd, Nat.reduceSub, Nat.reduceMul, Nat.reduceDiv, Nat.reduceMod, Nat.reducePow, Nat.reduceBEq, Nat.reduceGT, reduceIte, e2, hk, T1, T3, T30, T38, T66]; done) | simp (maxDischargeDepth := 9) only [RA, Nat.reduceEqDiff, Nat.reduceLT, Nat.reduceLeDiff, Nat.reduceAdd, Nat.reduceSub, Nat.reduceMul, Nat.reduceDiv, Nat.reduceMod, Nat.reducePow, Nat.reduceBEq, Nat.reduceGT, reduceIte, e2, hk, T1, T3, T30, T38, T66] | simp (disch := first | assumption | omega) only [RV, e2, hk, T1, T3, T30, T38, T66])) <;> rfl)))
    | (apply R_cond
       · (simp only [RE, Nat.reduceEqDiff, Nat.reduceLT, Nat.reduceLeDiff, Nat.reduceBEq, reduceIte, e2, hk, T1, T3, T30, T38, T66] <;> rfl))
    | (apply R_grd
       · (simp only [yieldedA, RY, Nat.reduceEqDiff, reduceIte, e2, hk, T1, T3, T30, T38, T66] <;> rfl)))
  rw [← hH] at b2 ⊢
  have o3 : H.obj h.nx = some (.row .rw 1 (b8 key)) := by rw [hH]; simp [RH]
  have hS : h.nx < H.nx := by rw [hH]; simp [RH]
  clear hH
  have hbl : (b.take 100).length ≤ 100 := by simp; omega
  generalize b.take 100 = b at b2 hbl
  refine D_draw [0, 3, 5] (fun r => r < H.nx) (by kernel_rfl) ?_
  repeat (first
    | refine D_nil ?_ | refine I_true ?_ | refine I_false ?_
    | ((first | apply D_op | apply D_op0)
       · (first | (simp (maxDischargeDepth := 9) only [RA, Nat.reduceEqDiff, Nat.reduceLT, Nat.reduceLeDiff, Nat.reduceAdd, Nat.reduceSub, Nat.reduceMul, Nat.reduceDiv, Nat.reduceMod, Nat.reducePow, Nat.reduceBEq, Nat.reduceGT, reduceIte, hS, T1, T3, T30, T38, T66] <;> rfl) | ((repeat (first | (simp (maxDischargeDepth := 9) only [RA, Nat.reduceEqDiff, Nat.reduceLT, Nat.reduceLeDiff, Nat.reduceAdd, Nat.reduceSub, Nat.reduceMul, Nat.reduceDiv, Nat.reduceMod, Nat.reducePow, Nat.reduceBEq, Nat.reduceGT, reduceIte, hS, T1, T3, T30, T38, T66]; done) | simp (maxDischargeDepth := 9) only [RA, Nat.reduceEqDiff, Nat.reduceLT, Nat.reduceLeDiff, Nat.reduceAdd, Nat.reduceSub, Nat.reduceMul, Nat.reduceDiv, Nat.reduceMod, Nat.reducePow, Nat.reduceBEq, Nat.reduceGT, reduceIte, hS, T1, T3, T30, T38, T66] | simp (disch := first | assumption | omega) only [RV, hS, T1, T3, T30, T38, T66])) <;> rfl))
       · (intro hF; first | exact chk_pure rfl | exact chk_alloc rfl | exact chk_read rfl | exact chk_iso iso60 | exact chk_call iso60 (fun _ _ _ => rfl) | exact chk_iso iso68 | exact chk_call iso68 (fun _ _ _ => rfl) | exact chk_iso iso72 | exact chk_call iso72 (fun _ _ _ => rfl) | exact chk_iso iso73 | exact chk_call iso73 (fun _ _ _ => rfl) | (exfalso; revert hF; decide) | ((first | refine chk_load ?_ | refine chk_slice ?_ | refine chk_convert ?_ | refine chk_store ?_ | refine chk_call (by kernel_rfl) ?_); simp only [eq_self, ev_tmp, upd_apply, rowsOfV, List.mem_cons, List.not_mem_nil, or_false, forall_eq, forall_eq_or_imp, obj_put, obj_new, nx_new, nx_put, Nat.reduceEqDiff, if_true, if_false, reduceIte, implies_true, and_self, and_true, true_or, or_true, hS, T1, T3, T30, T38, T66])))
    | (apply D_grd
       · (simp only [yieldedA, RY, Nat.reduceEqDiff, reduceIte, hS, T1, T3, T30, T38, T66] <;> rfl)))
  refine D_app E38 Try.underlying38 (v := emptyS) (w := v2) (lo := H.nx) (xs := []) (ys := b) ?_ ?_ .empty b2 (Nat.le_refl _) (by simp; omega) (fun v' h' own wt _ r _ hr => wt.rest r hr (by simp [rowsOfV, emptyS])) ?_
  · first | rfl | (first | rw [ev_tmp] | rw [ev_const] | skip) <;> simp only [upd_apply, Nat.reduceEqDiff, if_true, if_false, reduceIte, lit_iv, lit_w8]
  · first | rfl | (first | rw [ev_tmp] | rw [ev_const] | skip) <;> simp only [upd_apply, Nat.reduceEqDiff, if_true, if_false, reduceIte, lit_iv, lit_w8]
  intro v4 h4 own4 wt4
  rw [List.nil_append] at own4
  have n4 := wt4.nx
  have F4 : Fr H.nx H h4 := wt4.fr (Nat.le_refl _) (fun r hr => by simp [rowsOfV, emptyS] at hr)
  repeat (first
    | refine D_nil ?_ | refine I_true ?_ | refine I_false ?_
    | ((first | apply D_op | apply D_op0)
       · (first | (simp (maxDischargeDepth := 9) only [RA, Nat.reduceEqDiff, Nat.reduceLT, Nat.reduceLeDiff, Nat.reduceAdd, Nat.reduceSub, Nat.reduceMul, Nat.reduceDiv, Nat.reduceMod, Nat.reducePow, Nat.reduceBEq, Nat.reduceGT, reduceIte, T1, T3, T30, T38, T66] <;> rfl) | ((repeat (first | (simp (maxDischargeDepth := 9) only [RA, Nat.reduceEqDiff, Nat.reduceLT, Nat.reduceLeDiff, Nat.reduceAdd, Nat.reduceSub, Nat.reduceMul, Nat.reduceDiv, Nat.reduceMod, Nat.reducePow, Nat.reduceBEq, Nat.reduceGT, reduceIte, T1, T3, T30, T38, T66]; done) | simp (maxDischargeDepth := 9) only [RA, Nat.reduceEqDiff, Nat.reduceLT, Nat.reduceLeDiff, Nat.reduceAdd, Nat.reduceSub, Nat.reduceMul, Nat.reduceDiv, Nat.reduceMod, Nat.reducePow, Nat.reduceBEq, Nat.reduceGT, reduceIte, T1, T3, T30, T38, T66] | simp (disch := first | assumption | omega) only [RV, T1, T3, T30, T38, T66])) <;> rfl))
       · (intro hF; first | exact chk_pure rfl | exact chk_alloc rfl | exact chk_read rfl | exact chk_iso iso60 | exact chk_call iso60 (fun _ _ _ => rfl) | exact chk_iso iso68 | exact chk_call iso68 (fun _ _ _ => rfl) | exact chk_iso iso72 | exact chk_call iso72 (fun _ _ _ => rfl) | exact chk_iso iso73 | exact chk_call iso73 (fun _ _ _ => rfl) | (exfalso; revert hF; decide) | ((first | refine chk_load ?_ | refine chk_slice ?_ | refine chk_convert ?_ | refine chk_store ?_ | refine chk_call (by kernel_rfl) ?_); simp only [eq_self, ev_tmp, upd_apply, rowsOfV, List.mem_cons, List.not_mem_nil, or_false, forall_eq, forall_eq_or_imp, obj_put, obj_new, nx_new, nx_put, Nat.reduceEqDiff, if_true, if_false, reduceIte, implies_true, and_self, and_true, true_or, or_true, T1, T3, T30, T38, T66])))
    | (apply D_grd
       · (simp only [yieldedA, RY, Nat.reduceEqDiff, reduceIte, T1, T3, T30, T38, T66] <;> rfl)))
  refine D_app E38 Try.underlying38 (v := v4) (w := .slice (some ⟨h4.nx, 0, none⟩) 1 1) (lo := H.nx) (xs := b) (ys := [1#8]) ?_ ?_ own4.new one_by (by simp only [RH]; omega) (by simp; omega) (fun v' h' own wt _ r hS hr => wt.rest r hr (fun hm => by have := (own4.rows _ hm).1; omega)) ?_
  · first | rfl | (first | rw [ev_tmp] | rw [ev_const] | skip) <;> simp only [upd_apply, Nat.reduceEqDiff, if_true, if_false, reduceIte, lit_iv, lit_w8]
  · first | rfl | (first | rw [ev_tmp] | rw [ev_const] | skip) <;> simp only [upd_apply, Nat.reduceEqDiff, if_true, if_false, reduceIte, lit_iv, lit_w8]
  intro v5 h5 own5 wt5
  have n5 := wt5.nx
  simp only [RH] at n5
  have F5 : Fr H.nx H h5 := F4.trans ((Fr.new (.refl _ _) (by omega) _ _ _).trans (wt5.owFr (by simp only [RH]; omega) own4.new))
  have o5 : h5.obj h.nx = some (.row .rw 1 (b8 key)) := by rw [F5.2 _ (by omega)]; exact o3
  repeat (first
    | refine D_nil ?_ | refine I_true ?_ | refine I_false ?_
    | ((first | apply D_op | apply D_op0)
       · (first | (simp (maxDischargeDepth := 9) only [RA, Nat.reduceEqDiff, Nat.reduceLT, Nat.reduceLeDiff, Nat.reduceAdd, Nat.reduceSub, Nat.reduceMul, Nat.reduceDiv, Nat.reduceMod, Nat.reducePow, Nat.reduceBEq, Nat.reduceGT, reduceIte, T1, T3, T30, T38, T66] <;> rfl) | ((repeat (first | (simp (maxDischargeDepth := 9) only [RA, Nat.reduceEqDiff, Nat.reduceLT, Nat.reduceLeDiff, Nat.reduceAdd, Nat.reduceSub, Nat.reduceMul, Nat.reduceDiv, Nat.reduceMod, Nat.reducePow, Nat.reduceBEq, Nat.reduceGT, reduceIte, T1, T3, T30, T38, T66]; done) | simp (maxDischargeDepth := 9) only [RA, Nat.reduceEqDiff, Nat.reduceLT, Nat.reduceLeDiff, Nat.reduceAdd, Nat.reduceSub, Nat.reduceMul, Nat.reduceDiv, Nat.reduceMod, Nat.reducePow, Nat.reduceBEq, Nat.reduceGT, reduceIte, T1, T3, T30, T38, T66] | simp (disch := first | assumption | omega) only [RV, T1, T3, T30, T38, T66])) <;> rfl))
       · (intro hF; first | exact chk_pure rfl | exact chk_alloc rfl | exact chk_read rfl | exact chk_iso iso60 | exact chk_call iso60 (fun _ _ _ => rfl) | exact chk_iso iso68 | exact chk_call iso68 (fun _ _ _ => rfl) | exact chk_iso iso72 | exact chk_call iso72 (fun _ _ _ => rfl) | exact chk_iso iso73 | exact chk_call iso73 (fun _ _ _ => rfl) | (exfalso; revert hF; decide) | ((first | refine chk_load ?_ | refine chk_slice ?_ | refine chk_convert ?_ | refine chk_store ?_ | refine chk_call (by kernel_rfl) ?_); simp only [eq_self, ev_tmp, upd_apply, rowsOfV, List.mem_cons, List.not_mem_nil, or_false, forall_eq, forall_eq_or_imp, obj_put, obj_new, nx_new, nx_put, Nat.reduceEqDiff, if_true, if_false, reduceIte, implies_true, and_self, and_true, true_or, or_true, T1, T3, T30, T38, T66])))
    | (apply D_grd
       · (simp only [yieldedA, RY, Nat.reduceEqDiff, reduceIte, T1, T3, T30, T38, T66] <;> rfl)))
  refine D_fn ?_ (hmac68 2 h5 (.slice (some ⟨h.nx, 0, none⟩) 32 32) v5 key (b ++ [1#8]) (by_row (k := .rw) (by omega) o5 (Nat.le_refl _) hk) own5.sl (by omega) (by simp; omega)) iso68 (fun v4 h4 hp _ r _ hr => hp.2.2 r hr) ?_
  · rfl
  intro v6 h6 ⟨hv6, F6⟩
  subst hv6
  have hl := hmacS_length key (b ++ [1#8])
  have hp8 := fun (H : Heap) (p : Nat) => puts8 (h := H) (b := p) (es := 1) hl (List.length_replicate (n := 32) (a := 0#8))
  have h64 := expS64 key b
  generalize hmacS key (b ++ [1#8]) = A1 at hl hp8 h64 ⊢
  have n6 := F6.1
  have b26 : By h6 v2 b := (b2.fr0 F5).fr0 F6
  have o6 : h6.obj h.nx = some (.row .rw 1 (b8 key)) := by rw [F6.2 _ (by omega)]; exact o5
  repeat (first
    | refine D_nil ?_ | refine I_true ?_ | refine I_false ?_
    | ((first | apply D_op | apply D_op0)
       · (first | (simp (maxDischargeDepth := 9) only [RA, Nat.reduceEqDiff, Nat.reduceLT, Nat.reduceLeDiff, Nat.reduceAdd, Nat.reduceSub, Nat.reduceMul, Nat.reduceDiv, Nat.reduceMod, Nat.reducePow, Nat.reduceBEq, Nat.reduceGT, reduceIte, hp8, rep8, T1, T3, T30, T38, T66] <;> rfl) | ((repeat (first | (simp (maxDischargeDepth := 9) only [RA, Nat.reduceEqDiff, Nat.reduceLT, Nat.reduceLeDiff, Nat.reduceAdd, Nat.reduceSub, Nat.reduceMul, Nat.reduceDiv, Nat.reduceMod, Nat.reducePow, Nat.reduceBEq, Nat.reduceGT, reduceIte, hp8, rep8, T1, T3, T30, T38, T66]; done) | simp (maxDischargeDepth := 9) only [RA, Nat.reduceEqDiff, Nat.reduceLT, Nat.reduceLeDiff, Nat.reduceAdd, Nat.reduceSub, Nat.reduceMul, Nat.reduceDiv, Nat.reduceMod, Nat.reducePow, Nat.reduceBEq, Nat.reduceGT, reduceIte, hp8, rep8, T1, T3, T30, T38, T66] | simp (disch := first | assumption | omega) only [RV, hp8, rep8, T1, T3, T30, T38, T66])) <;> rfl))
       · (intro hF; first | exact chk_pure rfl | exact chk_alloc rfl | exact chk_read rfl | exact chk_iso iso60 | exact chk_call iso60 (fun _ _ _ => rfl) | exact chk_iso iso68 | exact chk_call iso68 (fun _ _ _ => rfl) | exact chk_iso iso72 | exact chk_call iso72 (fun _ _ _ => rfl) | exact chk_iso iso73 | exact chk_call iso73 (fun _ _ _ => rfl) | (exfalso; revert hF; decide) | ((first | refine chk_load ?_ | refine chk_slice ?_ | refine chk_convert ?_ | refine chk_store ?_ | refine chk_call (by kernel_rfl) ?_); simp only [eq_self, ev_tmp, upd_apply, rowsOfV, List.mem_cons, List.not_mem_nil, or_false, forall_eq, forall_eq_or_imp, obj_put, obj_new, nx_new, nx_put, Nat.reduceEqDiff, if_true, if_false, reduceIte, implies_true, and_self, and_true, true_or, or_true, hp8, rep8, T1, T3, T30, T38, T66])))
    | (apply D_grd
       · (simp only [yieldedA, RY, Nat.reduceEqDiff, reduceIte, hp8, rep8, T1, T3, T30, T38, T66] <;> rfl)))
  repeat (first
    | refine R_seq ?_ | refine R_region ?_ | refine R_nil ?_ | refine Q_seq ?_ | refine Q_norm ?_ | refine Q_seqr ?_ | refine Q_seqx ?_ | refine Q_bl ?_ | refine Q_blr ?_ | refine Q_blx ?_ | refine Q_blo rfl ?_ | refine R_block ?_ | refine R_skip ?_ | refine R_exit ?_ | refine R_ret ?_ | refine I_true ?_ | refine I_false ?_ | refine N_exit ?_ | refine N_ret ?_
    | ((first | apply R_op | apply R_op0)
       · (first | (simp (maxDischargeDepth := 9) only [RA, Nat.reduceEqDiff, Nat.reduceLT, Nat.reduceLeDiff, Nat.reduceAdd, Nat.reduceSub, Nat.reduceMul, Nat.reduceDiv, Nat.reduceMod, Nat.reducePow, Nat.reduceBEq, Nat.reduceGT, reduceIte, T1, T3, T30, T38, T66] <;> rfl) | ((repeat (first | (simp (maxDischargeDepth := 9) only [RA, Nat.reduceEqDiff, Nat.reduceLT, Nat.reduceLeDiff, Nat.reduceAdd, Nat.reduceSub, Nat.reduceMul, Nat.reduceDiv, Nat.reduceMod, Nat.reducePow, Nat.reduceBEq, Nat.reduceGT, reduceIte, T1, T3, T30, T38, T66]; done) | simp (maxDischargeDepth := 9) only [RA, Nat.reduceEqDiff, Nat.reduceLT, Nat.reduceLeDiff, Nat.reduceAdd, Nat.reduceSub, Nat.reduceMul, Nat.reduceDiv, Nat.reduceMod, Nat.reducePow, Nat.reduceBEq, Nat.reduceGT, reduceIte, T1, T3, T30, T38, T66] | simp (disch := first | assumption | omega) only [RV, T1, T3, T30, T38, T66])) <;> rfl)))
    | (apply R_cond
       · (simp only [RE, Nat.reduceEqDiff, Nat.reduceLT, Nat.reduceLeDiff, Nat.reduceBEq, reduceIte, T1, T3, T30, T38, T66] <;> rfl))
    | (apply R_grd
       · (simp only [yieldedA, RY, Nat.reduceEqDiff, reduceIte, T1, T3, T30, T38, T66] <;> rfl)))
  obtain ⟨G, hG⟩ : ∃ H, H = (newRowH h6 .rw 1 (b8 (List.replicate 32 0#8))).put h6.nx (some (AObj.row .rw 1 (b8 A1))) := ⟨_, rfl⟩
  rw [← hG]
  have oM : G.obj h6.nx = some (.row .rw 1 (b8 A1)) := by rw [hG]; simp [RH]
  have nM : G.nx = h6.nx + 1 := by rw [hG]; simp [RH]
  have FM : Fr h6.nx h6 G := by rw [hG]; (repeat (first | assumption | exact Fr.refl _ _ | refine Fr.new ?_ ?_ _ _ _ | refine Fr.put ?_ ?_ _ | omega | (simp only [RH]; omega)))
  clear hG
  have bM : By G (.slice (some ⟨h6.nx, 0, none⟩) 32 32) A1 := by_row (k := .rw) (by omega) oM (Nat.le_refl _) hl
  have oG : G.obj h.nx = some (.row .rw 1 (b8 key)) := by rw [FM.2 _ (by omega)]; exact o6
  have bG : By G v2 b := b26.fr0 FM
  have hS1 : h.nx < G.nx := by omega
  have hS2 : h6.nx < G.nx := by omega
  refine D_draw [0, 2, 3, 5, 7] (fun r => r < G.nx) (by kernel_rfl) ?_
  repeat (first
    | refine D_nil ?_ | refine I_true ?_ | refine I_false ?_
    | ((first | apply D_op | apply D_op0)
       · (first | (simp (maxDischargeDepth := 9) only [RA, Nat.reduceEqDiff, Nat.reduceLT, Nat.reduceLeDiff, Nat.reduceAdd, Nat.reduceSub, Nat.reduceMul, Nat.reduceDiv, Nat.reduceMod, Nat.reducePow, Nat.reduceBEq, Nat.reduceGT, reduceIte, hS1, hS2, T1, T3, T30, T38, T66] <;> rfl) | ((repeat (first | (simp (maxDischargeDepth := 9) only [RA, Nat.reduceEqDiff, Nat.reduceLT, Nat.reduceLeDiff, Nat.reduceAdd, Nat.reduceSub, Nat.reduceMul, Nat.reduceDiv, Nat.reduceMod, Nat.reducePow, Nat.reduceBEq, Nat.reduceGT, reduceIte, hS1, hS2, T1, T3, T30, T38, T66]; done) | simp (maxDischargeDepth := 9) only [RA, Nat.reduceEqDiff, Nat.reduceLT, Nat.reduceLeDiff, Nat.reduceAdd, Nat.reduceSub, Nat.reduceMul, Nat.reduceDiv, Nat.reduceMod, Nat.reducePow, Nat.reduceBEq, Nat.reduceGT, reduceIte, hS1, hS2, T1, T3, T30, T38, T66] | simp (disch := first | assumption | omega) only [RV, hS1, hS2, T1, T3, T30, T38, T66])) <;> rfl))
       · (intro hF; first | exact chk_pure rfl | exact chk_alloc rfl | exact chk_read rfl | exact chk_iso iso60 | exact chk_call iso60 (fun _ _ _ => rfl) | exact chk_iso iso68 | exact chk_call iso68 (fun _ _ _ => rfl) | exact chk_iso iso72 | exact chk_call iso72 (fun _ _ _ => rfl) | exact chk_iso iso73 | exact chk_call iso73 (fun _ _ _ => rfl) | (exfalso; revert hF; decide) | ((first | refine chk_load ?_ | refine chk_slice ?_ | refine chk_convert ?_ | refine chk_store ?_ | refine chk_call (by kernel_rfl) ?_); simp only [eq_self, ev_tmp, upd_apply, rowsOfV, List.mem_cons, List.not_mem_nil, or_false, forall_eq, forall_eq_or_imp, obj_put, obj_new, nx_new, nx_put, Nat.reduceEqDiff, if_true, if_false, reduceIte, implies_true, and_self, and_true, true_or, or_true, hS1, hS2, T1, T3, T30, T38, T66])))
    | (apply D_grd
       · (simp only [yieldedA, RY, Nat.reduceEqDiff, reduceIte, hS1, hS2, T1, T3, T30, T38, T66] <;> rfl)))
  refine D_app E38 Try.underlying38 (v := emptyS) (w := .slice (some ⟨h6.nx, 0, none⟩) 32 32) (lo := G.nx) (xs := []) (ys := A1) ?_ ?_ .empty bM (Nat.le_refl _) (by simp; omega) (fun v' h' own wt _ r _ hr => wt.rest r hr (by simp [rowsOfV, emptyS])) ?_
  · first | rfl | (first | rw [ev_tmp] | rw [ev_const] | skip) <;> simp only [upd_apply, Nat.reduceEqDiff, if_true, if_false, reduceIte, lit_iv, lit_w8]
  · first | rfl | (first | rw [ev_tmp] | rw [ev_const] | skip) <;> simp only [upd_apply, Nat.reduceEqDiff, if_true, if_false, reduceIte, lit_iv, lit_w8]
  intro v7 h7 own7 wt7
  rw [List.nil_append] at own7
  have n7 := wt7.nx
  have F7 : Fr G.nx G h7 := wt7.fr (Nat.le_refl _) (fun r hr => by simp [rowsOfV, emptyS] at hr)
  repeat (first
    | refine D_nil ?_ | refine I_true ?_ | refine I_false ?_
    | ((first | apply D_op | apply D_op0)
       · (first | (simp (maxDischargeDepth := 9) only [RA, Nat.reduceEqDiff, Nat.reduceLT, Nat.reduceLeDiff, Nat.reduceAdd, Nat.reduceSub, Nat.reduceMul, Nat.reduceDiv, Nat.reduceMod, Nat.reducePow, Nat.reduceBEq, Nat.reduceGT, reduceIte, T1, T3, T30, T38, T66] <;> rfl) | ((repeat (first | (simp (maxDischargeDepth := 9) only [RA, Nat.reduceEqDiff, Nat.reduceLT, Nat.reduceLeDiff, Nat.reduceAdd, Nat.reduceSub, Nat.reduceMul, Nat.reduceDiv, Nat.reduceMod, Nat.reducePow, Nat.reduceBEq, Nat.reduceGT, reduceIte, T1, T3, T30, T38, T66]; done) | simp (maxDischargeDepth := 9) only [RA, Nat.reduceEqDiff, Nat.reduceLT, Nat.reduceLeDiff, Nat.reduceAdd, Nat.reduceSub, Nat.reduceMul, Nat.reduceDiv, Nat.reduceMod, Nat.reducePow, Nat.reduceBEq, Nat.reduceGT, reduceIte, T1, T3, T30, T38, T66] | simp (disch := first | assumption | omega) only [RV, T1, T3, T30, T38, T66])) <;> rfl))
       · (intro hF; first | exact chk_pure rfl | exact chk_alloc rfl | exact chk_read rfl | exact chk_iso iso60 | exact chk_call iso60 (fun _ _ _ => rfl) | exact chk_iso iso68 | exact chk_call iso68 (fun _ _ _ => rfl) | exact chk_iso iso72 | exact chk_call iso72 (fun _ _ _ => rfl) | exact chk_iso iso73 | exact chk_call iso73 (fun _ _ _ => rfl) | (exfalso; revert hF; decide) | ((first | refine chk_load ?_ | refine chk_slice ?_ | refine chk_convert ?_ | refine chk_store ?_ | refine chk_call (by kernel_rfl) ?_); simp only [eq_self, ev_tmp, upd_apply, rowsOfV, List.mem_cons, List.not_mem_nil, or_false, forall_eq, forall_eq_or_imp, obj_put, obj_new, nx_new, nx_put, Nat.reduceEqDiff, if_true, if_false, reduceIte, implies_true, and_self, and_true, true_or, or_true, T1, T3, T30, T38, T66])))
    | (apply D_grd
       · (simp only [yieldedA, RY, Nat.reduceEqDiff, reduceIte, T1, T3, T30, T38, T66] <;> rfl)))
  refine D_app E38 Try.underlying38 (v := v7) (w := v2) (lo := G.nx) (xs := A1) (ys := b) ?_ ?_ own7 (bG.fr0 F7) n7 (by omega) (fun v' h' own wt _ r hS hr => wt.rest r hr (fun hm => by have := (own7.rows _ hm).1; omega)) ?_
  · first | rfl | (first | rw [ev_tmp] | rw [ev_const] | skip) <;> simp only [upd_apply, Nat.reduceEqDiff, if_true, if_false, reduceIte, lit_iv, lit_w8]
  · first | rfl | (first | rw [ev_tmp] | rw [ev_const] | skip) <;> simp only [upd_apply, Nat.reduceEqDiff, if_true, if_false, reduceIte, lit_iv, lit_w8]
  intro v8 h8 own8 wt8
  have n8 := wt8.nx
  have F8 : Fr G.nx G h8 := F7.trans (wt8.owFr n7 own7)
  repeat (first
    | refine D_nil ?_ | refine I_true ?_ | refine I_false ?_
    | ((first | apply D_op | apply D_op0)
       · (first | (simp (maxDischargeDepth := 9) only [RA, Nat.reduceEqDiff, Nat.reduceLT, Nat.reduceLeDiff, Nat.reduceAdd, Nat.reduceSub, Nat.reduceMul, Nat.reduceDiv, Nat.reduceMod, Nat.reducePow, Nat.reduceBEq, Nat.reduceGT, reduceIte, T1, T3, T30, T38, T66] <;> rfl) | ((repeat (first | (simp (maxDischargeDepth := 9) only [RA, Nat.reduceEqDiff, Nat.reduceLT, Nat.reduceLeDiff, Nat.reduceAdd, Nat.reduceSub, Nat.reduceMul, Nat.reduceDiv, Nat.reduceMod, Nat.reducePow, Nat.reduceBEq, Nat.reduceGT, reduceIte, T1, T3, T30, T38, T66]; done) | simp (maxDischargeDepth := 9) only [RA, Nat.reduceEqDiff, Nat.reduceLT, Nat.reduceLeDiff, Nat.reduceAdd, Nat.reduceSub, Nat.reduceMul, Nat.reduceDiv, Nat.reduceMod, Nat.reducePow, Nat.reduceBEq, Nat.reduceGT, reduceIte, T1, T3, T30, T38, T66] | simp (disch := first | assumption | omega) only [RV, T1, T3, T30, T38, T66])) <;> rfl))
       · (intro hF; first | exact chk_pure rfl | exact chk_alloc rfl | exact chk_read rfl | exact chk_iso iso60 | exact chk_call iso60 (fun _ _ _ => rfl) | exact chk_iso iso68 | exact chk_call iso68 (fun _ _ _ => rfl) | exact chk_iso iso72 | exact chk_call iso72 (fun _ _ _ => rfl) | exact chk_iso iso73 | exact chk_call iso73 (fun _ _ _ => rfl) | (exfalso; revert hF; decide) | ((first | refine chk_load ?_ | refine chk_slice ?_ | refine chk_convert ?_ | refine chk_store ?_ | refine chk_call (by kernel_rfl) ?_); simp only [eq_self, ev_tmp, upd_apply, rowsOfV, List.mem_cons, List.not_mem_nil, or_false, forall_eq, forall_eq_or_imp, obj_put, obj_new, nx_new, nx_put, Nat.reduceEqDiff, if_true, if_false, reduceIte, implies_true, and_self, and_true, true_or, or_true, T1, T3, T30, T38, T66])))
    | (apply D_grd
       · (simp only [yieldedA, RY, Nat.reduceEqDiff, reduceIte, T1, T3, T30, T38, T66] <;> rfl)))
  refine D_app E38 Try.underlying38 (v := v8) (w := .slice (some ⟨h8.nx, 0, none⟩) 1 1) (lo := G.nx) (xs := A1 ++ b) (ys := [2#8]) ?_ ?_ own8.new one_by (by simp only [RH]; omega) (by simp; omega) (fun v' h' own wt _ r hS hr => wt.rest r hr (fun hm => by have := (own8.rows _ hm).1; omega)) ?_
  · first | rfl | (first | rw [ev_tmp] | rw [ev_const] | skip) <;> simp only [upd_apply, Nat.reduceEqDiff, if_true, if_false, reduceIte, lit_iv, lit_w8]
  · first | rfl | (first | rw [ev_tmp] | rw [ev_const] | skip) <;> simp only [upd_apply, Nat.reduceEqDiff, if_true, if_false, reduceIte, lit_iv, lit_w8]
  intro v9 h9 own9 wt9
  have n9 := wt9.nx
  simp only [RH] at n9
  have F9 : Fr G.nx G h9 := F8.trans ((Fr.new (.refl _ _) (by omega) _ _ _).trans (wt9.owFr (by simp only [RH]; omega) own8.new))
  have o9 : h9.obj h.nx = some (.row .rw 1 (b8 key)) := by rw [F9.2 _ (by omega)]; exact oG
  repeat (first
    | refine D_nil ?_ | refine I_true ?_ | refine I_false ?_
    | ((first | apply D_op | apply D_op0)
       · (first | (simp (maxDischargeDepth := 9) only [RA, Nat.reduceEqDiff, Nat.reduceLT, Nat.reduceLeDiff, Nat.reduceAdd, Nat.reduceSub, Nat.reduceMul, Nat.reduceDiv, Nat.reduceMod, Nat.reducePow, Nat.reduceBEq, Nat.reduceGT, reduceIte, T1, T3, T30, T38, T66] <;> rfl) | ((repeat (first | (simp (maxDischargeDepth := 9) only [RA, Nat.reduceEqDiff, Nat.reduceLT, Nat.reduceLeDiff, Nat.reduceAdd, Nat.reduceSub, Nat.reduceMul, Nat.reduceDiv, Nat.reduceMod, Nat.reducePow, Nat.reduceBEq, Nat.reduceGT, reduceIte, T1, T3, T30, T38, T66]; done) | simp (maxDischargeDepth := 9) only [RA, Nat.reduceEqDiff, Nat.reduceLT, Nat.reduceLeDiff, Nat.reduceAdd, Nat.reduceSub, Nat.reduceMul, Nat.reduceDiv, Nat.reduceMod, Nat.reducePow, Nat.reduceBEq, Nat.reduceGT, reduceIte, T1, T3, T30, T38, T66] | simp (disch := first | assumption | omega) only [RV, T1, T3, T30, T38, T66])) <;> rfl))
       · (intro hF; first | exact chk_pure rfl | exact chk_alloc rfl | exact chk_read rfl | exact chk_iso iso60 | exact chk_call iso60 (fun _ _ _ => rfl) | exact chk_iso iso68 | exact chk_call iso68 (fun _ _ _ => rfl) | exact chk_iso iso72 | exact chk_call iso72 (fun _ _ _ => rfl) | exact chk_iso iso73 | exact chk_call iso73 (fun _ _ _ => rfl) | (exfalso; revert hF; decide) | ((first | refine chk_load ?_ | refine chk_slice ?_ | refine chk_convert ?_ | refine chk_store ?_ | refine chk_call (by kernel_rfl) ?_); simp only [eq_self, ev_tmp, upd_apply, rowsOfV, List.mem_cons, List.not_mem_nil, or_false, forall_eq, forall_eq_or_imp, obj_put, obj_new, nx_new, nx_put, Nat.reduceEqDiff, if_true, if_false, reduceIte, implies_true, and_self, and_true, true_or, or_true, T1, T3, T30, T38, T66])))
    | (apply D_grd
       · (simp only [yieldedA, RY, Nat.reduceEqDiff, reduceIte, T1, T3, T30, T38, T66] <;> rfl)))
  refine D_fn ?_ (hmac68 2 h9 (.slice (some ⟨h.nx, 0, none⟩) 32 32) v9 key (A1 ++ b ++ [2#8]) (by_row (k := .rw) (by omega) o9 (Nat.le_refl _) hk) own9.sl (by omega) (by simp; omega)) iso68 (fun v4 h4 hp _ r _ hr => hp.2.2 r hr) ?_
  · rfl
  intro v10 h10 ⟨hv10, F10⟩
  subst hv10
  have hl2 := hmacS_length key (A1 ++ b ++ [2#8])
  have hp82 := fun (H : Heap) (p : Nat) => puts8 (h := H) (b := p) (es := 1) hl2 (List.length_replicate (n := 32) (a := 0#8))
  generalize hmacS key (A1 ++ b ++ [2#8]) = A2 at hl2 hp82 h64 ⊢
  have n10 := F10.1
  have FG : Fr G.nx G h10 := F9.trans (F10.le (by omega))
  have b210 : By h10 v2 b := bG.fr0 FG
  have bM10 : By h10 (.slice (some ⟨h6.nx, 0, none⟩) 32 32) A1 := bM.fr0 FG
  have o10 : h10.obj h.nx = some (.row .rw 1 (b8 key)) := by rw [FG.2 _ (by omega)]; exact oG
  repeat (first
    | refine D_nil ?_ | refine I_true ?_ | refine I_false ?_
    | ((first | apply D_op | apply D_op0)
       · (first | (simp (maxDischargeDepth := 9) only [RA, Nat.reduceEqDiff, Nat.reduceLT, Nat.reduceLeDiff, Nat.reduceAdd, Nat.reduceSub, Nat.reduceMul, Nat.reduceDiv, Nat.reduceMod, Nat.reducePow, Nat.reduceBEq, Nat.reduceGT, reduceIte, hp82, rep8, T1, T3, T30, T38, T66] <;> rfl) | ((repeat (first | (simp (maxDischargeDepth := 9) only [RA, Nat.reduceEqDiff, Nat.reduceLT, Nat.reduceLeDiff, Nat.reduceAdd, Nat.reduceSub, Nat.reduceMul, Nat.reduceDiv, Nat.reduceMod, Nat.reducePow, Nat.reduceBEq, Nat.reduceGT, reduceIte, hp82, rep8, T1, T3, T30, T38, T66]; done) | simp (maxDischargeDepth := 9) only [RA, Nat.reduceEqDiff, Nat.reduceLT, Nat.reduceLeDiff, Nat.reduceAdd, Nat.reduceSub, Nat.reduceMul, Nat.reduceDiv, Nat.reduceMod, Nat.reducePow, Nat.reduceBEq, Nat.reduceGT, reduceIte, hp82, rep8, T1, T3, T30, T38, T66] | simp (disch := first | assumption | omega) only [RV, hp82, rep8, T1, T3, T30, T38, T66])) <;> rfl))
       · (intro hF; first | exact chk_pure rfl | exact chk_alloc rfl | exact chk_read rfl | exact chk_iso iso60 | exact chk_call iso60 (fun _ _ _ => rfl) | exact chk_iso iso68 | exact chk_call iso68 (fun _ _ _ => rfl) | exact chk_iso iso72 | exact chk_call iso72 (fun _ _ _ => rfl) | exact chk_iso iso73 | exact chk_call iso73 (fun _ _ _ => rfl) | (exfalso; revert hF; decide) | ((first | refine chk_load ?_ | refine chk_slice ?_ | refine chk_convert ?_ | refine chk_store ?_ | refine chk_call (by kernel_rfl) ?_); simp only [eq_self, ev_tmp, upd_apply, rowsOfV, List.mem_cons, List.not_mem_nil, or_false, forall_eq, forall_eq_or_imp, obj_put, obj_new, nx_new, nx_put, Nat.reduceEqDiff, if_true, if_false, reduceIte, implies_true, and_self, and_true, true_or, or_true, hp82, rep8, T1, T3, T30, T38, T66])))
    | (apply D_grd
       · (simp only [yieldedA, RY, Nat.reduceEqDiff, reduceIte, hp82, rep8, T1, T3, T30, T38, T66] <;> rfl)))
  have hne1 : (h.nx = h10.nx) = False := eq_false (by omega)
  repeat (first
    | refine R_seq ?_ | refine R_region ?_ | refine R_nil ?_ | refine Q_seq ?_ | refine Q_norm ?_ | refine Q_seqr ?_ | refine Q_seqx ?_ | refine Q_bl ?_ | refine Q_blr ?_ | refine Q_blx ?_ | refine Q_blo rfl ?_ | refine R_block ?_ | refine R_skip ?_ | refine R_exit ?_ | refine R_ret ?_ | refine I_true ?_ | refine I_false ?_ | refine N_exit ?_ | refine N_ret ?_
    | ((first | apply R_op | apply R_op0)
       · (first | (simp (maxDischargeDepth := 9) only [RA, Nat.reduceEqDiff, Nat.reduceLT, Nat.reduceLeDiff, Nat.reduceAdd, Nat.reduceSub, Nat.reduceMul, Nat.reduceDiv, Nat.reduceMod, Nat.reducePow, Nat.reduceBEq, Nat.reduceGT, reduceIte, hne1, o10, hck, T1, T3, T30, T38, T66] <;> rfl) | ((repeat (first | (simp (maxDischargeDepth := 9) only [RA, Nat.reduceEqDiff, Nat.reduceLT, Nat.reduceLeDiff, Nat.reduceAdd, Nat.reduceSub, Nat.reduceMul, Nat.reduceDiv, Nat.reduceMod, Nat.reducePow, Nat.reduceBEq, Nat.reduceGT, reduceIte, hne1, o10, hck, T1, T3, T30, T38, T66]; done) | simp (maxDischargeDepth := 9) only [RA, Nat.reduceEqDiff, Nat.reduceLT, Nat.reduceLeDiff, Nat.reduceAdd, Nat.reduceSub, Nat.reduceMul, Nat.reduceDiv, Nat.reduceMod, Nat.reducePow, Nat.reduceBEq, Nat.reduceGT, reduceIte, hne1, o10, hck, T1, T3, T30, T38, T66] | simp (disch := first | assumption | omega) only [RV, hne1, o10, hck, T1, T3, T30, T38, T66])) <;> rfl)))
    | (apply R_cond
       · (simp only [RE, Nat.reduceEqDiff, Nat.reduceLT, Nat.reduceLeDiff, Nat.reduceBEq, reduceIte, hne1, o10, hck, T1, T3, T30, T38, T66] <;> rfl))
    | (apply R_grd
       · (simp only [yieldedA, RY, Nat.reduceEqDiff, reduceIte, hne1, o10, hck, T1, T3, T30, T38, T66] <;> rfl)))
  obtain ⟨K, hK⟩ : ∃ H, H = (newRowH h10 .rw 1 (b8 (List.replicate 32 0#8))).put h10.nx (some (AObj.row .rw 1 (b8 A2))) := ⟨_, rfl⟩
  rw [← hK]
  have oN : K.obj h10.nx = some (.row .rw 1 (b8 A2)) := by rw [hK]; simp [RH]
  have nN : h10.nx < K.nx := by rw [hK]; simp [RH]
  have FK : Fr h10.nx h10 K := by rw [hK]; (repeat (first | assumption | exact Fr.refl _ _ | refine Fr.new ?_ ?_ _ _ _ | refine Fr.put ?_ ?_ _ | omega | (simp only [RH]; omega)))
  clear hK
  have bN : By K (.slice (some ⟨h10.nx, 0, none⟩) 32 32) A2 := by_row (k := .rw) nN oN (Nat.le_refl _) hl2
  refine R_fn ?_ (exp72 1 K key v2 b 64 hk (b210.fr0 FK) (by omega) (by decide)) ?_
  · rfl
  intro v11 h11 ⟨⟨u11, hv11, b11⟩, F11⟩
  subst hv11
  rw [h64] at b11
  have bM11 : By h11 (.slice (some ⟨h6.nx, 0, none⟩) 32 32) A1 := (bM10.fr0 FK).fr0 F11
  have bN11 : By h11 (.slice (some ⟨h10.nx, 0, none⟩) 32 32) A2 := bN.fr0 F11
  have hl12 : (A1 ++ A2).length = 64 := by rw [List.length_append, hl, hl2]
  have l11 := S38len b11
  have s1 := S38h (hh := 32) b11 fr_refl (by rw [hl12]; decide)
  have s2 := S38l (l := 32) b11 fr_refl (by rw [hl12]; decide)
  have bs1 := b11.subh (mx := none) (hh := 32) (by rw [hl12]; decide) (fun m hm => nomatch hm)
  have bs2 := b11.subl (l := 32) (by rw [hl12]; decide)
  rw [List.take_append_of_le_length (by rw [hl]; exact Nat.le_refl _), List.take_of_length_le (by rw [hl]; exact Nat.le_refl _)] at bs1
  rw [List.drop_append_of_le_length (by rw [hl]; exact Nat.le_refl _), List.drop_of_length_le (by rw [hl]; exact Nat.le_refl _), List.nil_append] at bs2
  rw [hl12] at l11 s2 bs2
  repeat (first
    | refine R_seq ?_ | refine R_region ?_ | refine R_nil ?_ | refine Q_seq ?_ | refine Q_norm ?_ | refine Q_seqr ?_ | refine Q_seqx ?_ | refine Q_bl ?_ | refine Q_blr ?_ | refine Q_blx ?_ | refine Q_blo rfl ?_ | refine R_block ?_ | refine R_skip ?_ | refine R_exit ?_ | refine R_ret ?_ | refine I_true ?_ | refine I_false ?_ | refine N_exit ?_ | refine N_ret ?_
    | ((first | apply R_op | apply R_op0)
       · (first | (simp (maxDischargeDepth := 9) only [RA, Nat.reduceEqDiff, Nat.reduceLT, Nat.reduceLeDiff, Nat.reduceAdd, Nat.reduceSub, Nat.reduceMul, Nat.reduceDiv, Nat.reduceMod, Nat.reducePow, Nat.reduceBEq, Nat.reduceGT, reduceIte, T1, T3, T30, T38, T66] <;> rfl) | ((repeat (first | (simp (maxDischargeDepth := 9) only [RA, Nat.reduceEqDiff, Nat.reduceLT, Nat.reduceLeDiff, Nat.reduceAdd, Nat.reduceSub, Nat.reduceMul, Nat.reduceDiv, Nat.reduceMod, Nat.reducePow, Nat.reduceBEq, Nat.reduceGT, reduceIte, T1, T3, T30, T38, T66]; done) | simp (maxDischargeDepth := 9) only [RA, Nat.reduceEqDiff, Nat.reduceLT, Nat.reduceLeDiff, Nat.reduceAdd, Nat.reduceSub, Nat.reduceMul, Nat.reduceDiv, Nat.reduceMod, Nat.reducePow, Nat.reduceBEq, Nat.reduceGT, reduceIte, T1, T3, T30, T38, T66] | simp (disch := first | assumption | omega) only [RV, T1, T3, T30, T38, T66])) <;> rfl)))
    | (apply R_cond
       · (simp only [RE, Nat.reduceEqDiff, Nat.reduceLT, Nat.reduceLeDiff, Nat.reduceBEq, reduceIte, T1, T3, T30, T38, T66] <;> rfl))
    | (apply R_grd
       · (simp only [yieldedA, RY, Nat.reduceEqDiff, reduceIte, T1, T3, T30, T38, T66] <;> rfl)))
  refine D_draw [9, 10, 11, 15, 16, 17] (fun _ => True) (by kernel_rfl) ?_
  repeat (first
    | refine D_nil ?_ | refine I_true ?_ | refine I_false ?_
    | ((first | apply D_op | apply D_op0)
       · (first | (simp (maxDischargeDepth := 9) only [RA, Nat.reduceEqDiff, Nat.reduceLT, Nat.reduceLeDiff, Nat.reduceAdd, Nat.reduceSub, Nat.reduceMul, Nat.reduceDiv, Nat.reduceMod, Nat.reducePow, Nat.reduceBEq, Nat.reduceGT, reduceIte, l11, s1, s2, T1, T3, T30, T38, T66] <;> rfl) | ((repeat (first | (simp (maxDischargeDepth := 9) only [RA, Nat.reduceEqDiff, Nat.reduceLT, Nat.reduceLeDiff, Nat.reduceAdd, Nat.reduceSub, Nat.reduceMul, Nat.reduceDiv, Nat.reduceMod, Nat.reducePow, Nat.reduceBEq, Nat.reduceGT, reduceIte, l11, s1, s2, T1, T3, T30, T38, T66]; done) | simp (maxDischargeDepth := 9) only [RA, Nat.reduceEqDiff, Nat.reduceLT, Nat.reduceLeDiff, Nat.reduceAdd, Nat.reduceSub, Nat.reduceMul, Nat.reduceDiv, Nat.reduceMod, Nat.reducePow, Nat.reduceBEq, Nat.reduceGT, reduceIte, l11, s1, s2, T1, T3, T30, T38, T66] | simp (disch := first | assumption | omega) only [RV, l11, s1, s2, T1, T3, T30, T38, T66])) <;> rfl))
       · (intro hF; first | exact chk_pure rfl | exact chk_alloc rfl | exact chk_read rfl | exact chk_iso iso60 | exact chk_call iso60 (fun _ _ _ => rfl) | exact chk_iso iso68 | exact chk_call iso68 (fun _ _ _ => rfl) | exact chk_iso iso72 | exact chk_call iso72 (fun _ _ _ => rfl) | exact chk_iso iso73 | exact chk_call iso73 (fun _ _ _ => rfl) | (exfalso; revert hF; decide) | ((first | refine chk_load ?_ | refine chk_slice ?_ | refine chk_convert ?_ | refine chk_store ?_ | refine chk_call (by kernel_rfl) ?_); simp only [eq_self, ev_tmp, upd_apply, rowsOfV, List.mem_cons, List.not_mem_nil, or_false, forall_eq, forall_eq_or_imp, obj_put, obj_new, nx_new, nx_put, Nat.reduceEqDiff, if_true, if_false, reduceIte, implies_true, and_self, and_true, true_or, or_true, l11, s1, s2, T1, T3, T30, T38, T66])))
    | (apply D_grd
       · (simp only [yieldedA, RY, Nat.reduceEqDiff, reduceIte, l11, s1, s2, T1, T3, T30, T38, T66] <;> rfl)))
  refine D_fn ?_ (equal73 10 h11 _ _ A1 A1 bs1 bM11 (by omega) (by omega)) iso73 (fun v4 h4 hp _ r _ hr => hp.2.2 r hr) ?_
  · rfl
  intro v12 h12 ⟨hv12, F12⟩
  subst hv12
  have s3 := S38l (l := 32) (b11.fr0 F12) fr_refl (by rw [hl12]; decide)
  rw [hl12] at s3
  repeat (first
    | refine D_nil ?_ | refine I_true ?_ | refine I_false ?_
    | ((first | apply D_op | apply D_op0)
       · (first | (simp (maxDischargeDepth := 9) only [RA, Nat.reduceEqDiff, Nat.reduceLT, Nat.reduceLeDiff, Nat.reduceAdd, Nat.reduceSub, Nat.reduceMul, Nat.reduceDiv, Nat.reduceMod, Nat.reducePow, Nat.reduceBEq, Nat.reduceGT, reduceIte, s3, T1, T3, T30, T38, T66] <;> rfl) | ((repeat (first | (simp (maxDischargeDepth := 9) only [RA, Nat.reduceEqDiff, Nat.reduceLT, Nat.reduceLeDiff, Nat.reduceAdd, Nat.reduceSub, Nat.reduceMul, Nat.reduceDiv, Nat.reduceMod, Nat.reducePow, Nat.reduceBEq, Nat.reduceGT, reduceIte, s3, T1, T3, T30, T38, T66]; done) | simp (maxDischargeDepth := 9) only [RA, Nat.reduceEqDiff, Nat.reduceLT, Nat.reduceLeDiff, Nat.reduceAdd, Nat.reduceSub, Nat.reduceMul, Nat.reduceDiv, Nat.reduceMod, Nat.reducePow, Nat.reduceBEq, Nat.reduceGT, reduceIte, s3, T1, T3, T30, T38, T66] | simp (disch := first | assumption | omega) only [RV, s3, T1, T3, T30, T38, T66])) <;> rfl))
       · (intro hF; first | exact chk_pure rfl | exact chk_alloc rfl | exact chk_read rfl | exact chk_iso iso60 | exact chk_call iso60 (fun _ _ _ => rfl) | exact chk_iso iso68 | exact chk_call iso68 (fun _ _ _ => rfl) | exact chk_iso iso72 | exact chk_call iso72 (fun _ _ _ => rfl) | exact chk_iso iso73 | exact chk_call iso73 (fun _ _ _ => rfl) | (exfalso; revert hF; decide) | ((first | refine chk_load ?_ | refine chk_slice ?_ | refine chk_convert ?_ | refine chk_store ?_ | refine chk_call (by kernel_rfl) ?_); simp only [eq_self, ev_tmp, upd_apply, rowsOfV, List.mem_cons, List.not_mem_nil, or_false, forall_eq, forall_eq_or_imp, obj_put, obj_new, nx_new, nx_put, Nat.reduceEqDiff, if_true, if_false, reduceIte, implies_true, and_self, and_true, true_or, or_true, s3, T1, T3, T30, T38, T66])))
    | (apply D_grd
       · (simp only [yieldedA, RY, Nat.reduceEqDiff, reduceIte, s3, T1, T3, T30, T38, T66] <;> rfl)))
  refine D_fn ?_ (equal73 10 h12 _ _ A2 A2 (bs2.fr0 F12) (bN11.fr0 F12) (by omega) (by omega)) iso73 (fun v4 h4 hp _ r _ hr => hp.2.2 r hr) ?_
  · rfl
  intro v13 h13 ⟨hv13, F13⟩
  subst hv13
  repeat (first
    | refine D_nil ?_ | refine I_true ?_ | refine I_false ?_
    | ((first | apply D_op | apply D_op0)
       · (first | (simp (maxDischargeDepth := 9) only [RA, Nat.reduceEqDiff, Nat.reduceLT, Nat.reduceLeDiff, Nat.reduceAdd, Nat.reduceSub, Nat.reduceMul, Nat.reduceDiv, Nat.reduceMod, Nat.reducePow, Nat.reduceBEq, Nat.reduceGT, reduceIte, T1, T3, T30, T38, T66] <;> rfl) | ((repeat (first | (simp (maxDischargeDepth := 9) only [RA, Nat.reduceEqDiff, Nat.reduceLT, Nat.reduceLeDiff, Nat.reduceAdd, Nat.reduceSub, Nat.reduceMul, Nat.reduceDiv, Nat.reduceMod, Nat.reducePow, Nat.reduceBEq, Nat.reduceGT, reduceIte, T1, T3, T30, T38, T66]; done) | simp (maxDischargeDepth := 9) only [RA, Nat.reduceEqDiff, Nat.reduceLT, Nat.reduceLeDiff, Nat.reduceAdd, Nat.reduceSub, Nat.reduceMul, Nat.reduceDiv, Nat.reduceMod, Nat.reducePow, Nat.reduceBEq, Nat.reduceGT, reduceIte, T1, T3, T30, T38, T66] | simp (disch := first | assumption | omega) only [RV, T1, T3, T30, T38, T66])) <;> rfl))
       · (intro hF; first | exact chk_pure rfl | exact chk_alloc rfl | exact chk_read rfl | exact chk_iso iso60 | exact chk_call iso60 (fun _ _ _ => rfl) | exact chk_iso iso68 | exact chk_call iso68 (fun _ _ _ => rfl) | exact chk_iso iso72 | exact chk_call iso72 (fun _ _ _ => rfl) | exact chk_iso iso73 | exact chk_call iso73 (fun _ _ _ => rfl) | (exfalso; revert hF; decide) | ((first | refine chk_load ?_ | refine chk_slice ?_ | refine chk_convert ?_ | refine chk_store ?_ | refine chk_call (by kernel_rfl) ?_); simp only [eq_self, ev_tmp, upd_apply, rowsOfV, List.mem_cons, List.not_mem_nil, or_false, forall_eq, forall_eq_or_imp, obj_put, obj_new, nx_new, nx_put, Nat.reduceEqDiff, if_true, if_false, reduceIte, implies_true, and_self, and_true, true_or, or_true, T1, T3, T30, T38, T66])))
    | (apply D_grd
       · (simp only [yieldedA, RY, Nat.reduceEqDiff, reduceIte, T1, T3, T30, T38, T66] <;> rfl)))
  repeat (first
    | refine R_seq ?_ | refine R_region ?_ | refine R_nil ?_ | refine Q_seq ?_ | refine Q_norm ?_ | refine Q_seqr ?_ | refine Q_seqx ?_ | refine Q_bl ?_ | refine Q_blr ?_ | refine Q_blx ?_ | refine Q_blo rfl ?_ | refine R_block ?_ | refine R_skip ?_ | refine R_exit ?_ | refine R_ret ?_ | refine I_true ?_ | refine I_false ?_ | refine N_exit ?_ | refine N_ret ?_
    | ((first | apply R_op | apply R_op0)
       · (first | (simp (maxDischargeDepth := 9) only [RA, Nat.reduceEqDiff, Nat.reduceLT, Nat.reduceLeDiff, Nat.reduceAdd, Nat.reduceSub, Nat.reduceMul, Nat.reduceDiv, Nat.reduceMod, Nat.reducePow, Nat.reduceBEq, Nat.reduceGT, reduceIte, T1, T3, T30, T38, T66] <;> rfl) | ((repeat (first | (simp (maxDischargeDepth := 9) only [RA, Nat.reduceEqDiff, Nat.reduceLT, Nat.reduceLeDiff, Nat.reduceAdd, Nat.reduceSub, Nat.reduceMul, Nat.reduceDiv, Nat.reduceMod, Nat.reducePow, Nat.reduceBEq, Nat.reduceGT, reduceIte, T1, T3, T30, T38, T66]; done) | simp (maxDischargeDepth := 9) only [RA, Nat.reduceEqDiff, Nat.reduceLT, Nat.reduceLeDiff, Nat.reduceAdd, Nat.reduceSub, Nat.reduceMul, Nat.reduceDiv, Nat.reduceMod, Nat.reducePow, Nat.reduceBEq, Nat.reduceGT, reduceIte, T1, T3, T30, T38, T66] | simp (disch := first | assumption | omega) only [RV, T1, T3, T30, T38, T66])) <;> rfl)))
    | (apply R_cond
       · (simp only [RE, Nat.reduceEqDiff, Nat.reduceLT, Nat.reduceLeDiff, Nat.reduceBEq, reduceIte, T1, T3, T30, T38, T66] <;> rfl))
    | (apply R_grd
       · (simp only [yieldedA, RY, Nat.reduceEqDiff, reduceIte, T1, T3, T30, T38, T66] <;> rfl)))
  (first | refine ⟨.inr rfl, _, rfl, ?_⟩ | refine ⟨.inl rfl, _, rfl, ?_⟩) <;> simp only [packR, upd_apply, Nat.reduceEqDiff, if_true, if_false, reduceIte]
theorem wl29 (h : Heap) (avs : List Value) (ty : TyVs Try.prog 8 h [30, 38] avs) : ∃ v h', evF (cfg0 Try.prog) 12 29 avs h = some (.ok v, h') ∧ v = .bool true := by
  match avs, ty with
  | [u, w], ⟨s0, s1, _⟩ =>
    obtain ⟨k, hk, rfl⟩ := tyv30 s0
    obtain ⟨ys, hc, _⟩ := tyv38 s1
    exact law29 h k hk w ys hc
theorem wl31 (h : Heap) (avs : List Value) (ty : TyVs Try.prog 8 h [30, 38] avs) : ∃ v h', evF (cfg0 Try.prog) 12 31 avs h = some (.ok v, h') ∧ v = .bool true := by
  match avs, ty with
  | [u, w], ⟨s0, s1, _⟩ =>
    obtain ⟨k, hk, rfl⟩ := tyv30 s0
    obtain ⟨ys, hc, _⟩ := tyv38 s1
    exact law31 h k hk w ys hc
end Go.Proofs.Ytfehhihllenjiaa
