/- Tags: laws. -/
import Derived.Test.YtfehhihllenjiaaJh
set_option linter.all false
namespace Go.Proofs.Ytfehhihllenjiaa
open Go.Proofs
theorem bool_same {l : Bool} {a : Bool} : evBin Try.prog .eql 4 l (.bool a) (.bool a) = some (.bool true) := by
  have e1 : eqOk Try.prog 4 l (.bool a) (.bool a) = true := rfl
  simp only [evBin, e1, if_true]
  have e2 : evEq Try.prog Op.maxDepth 4 (.bool a) (.bool a) = some (a == a) := by
    rw [show Op.maxDepth = (Op.maxDepth - 1) + 1 from rfl]
    simp only [evEq, Try.underlying4]
  rw [e2, beq_self_eq_true]; rfl
attribute [local irreducible] evOps iter evD evF evC evLoad evStore evAlloc evIndexAddr evIndex evLenB evBox evBin evUn evConvert evExtract evSlice evAppend evCopy evNil evBuild evMakeSlice evBuildSlice evBuiltin Program.underlying
attribute [local irreducible] sumS turnB keyS padK hmacS turnR catN expT expO expS key1
set_option maxRecDepth 20000 in
set_option maxHeartbeats 8000000 in
theorem law28 (h : Heap) (v w : Value) (a b : List (BitVec 8)) (ha : By h v a) (hb : By h w b) (hal : a.length ≤ 9223372036854775807) (hbl : b.length ≤ 9223372036854775807) : ∃ v1 h1, evF (cfg0 Try.prog) 12 28 [v, w] h = some (.ok v1, h1) ∧ v1 = .bool true := by
  rw [evF_eq Try.func28 rfl]
  apply evEnd_of_W
  simp only [Try.f28]
  have hc : decide (b = a) = decide (a = b) := decide_eq_decide.2 eq_comm
  repeat (first
    | refine R_seq ?_ | refine R_region ?_ | refine R_nil ?_ | refine Q_seq ?_ | refine Q_norm ?_ | refine Q_seqr ?_ | refine Q_seqx ?_ | refine Q_bl ?_ | refine Q_blr ?_ | refine Q_blx ?_ | refine Q_blo rfl ?_ | refine R_block ?_ | refine R_skip ?_ | refine R_exit ?_ | refine R_ret ?_ | refine I_true ?_ | refine I_false ?_ | refine N_exit ?_ | refine N_ret ?_
    | ((first | apply R_op | apply R_op0)
       · (first | (simp (maxDischargeDepth := 9) only [RA, Nat.reduceEqDiff, Nat.reduceLT, Nat.reduceLeDiff, Nat.reduceAdd, Nat.reduceSub, Nat.reduceMul, Nat.reduceDiv, Nat.reduceMod, Nat.reducePow, Nat.reduceBEq, Nat.reduceGT, reduceIte, T4, T9, T38] <;> rfl) | ((repeat (first | (simp (maxDischargeDepth := 9) only [RA, Nat.reduceEqDiff, Nat.reduceLT, Nat.reduceLeDiff, Nat.reduceAdd, Nat.reduceSub, Nat.reduceMul, Nat.reduceDiv, Nat.reduceMod, Nat.reducePow, Nat.reduceBEq, Nat.reduceGT, reduceIte, T4, T9, T38]; done) | simp (maxDischargeDepth := 9) only [RA, Nat.reduceEqDiff, Nat.reduceLT, Nat.reduceLeDiff, Nat.reduceAdd, Nat.reduceSub, Nat.reduceMul, Nat.reduceDiv, Nat.reduceMod, Nat.reducePow, Nat.reduceBEq, Nat.reduceGT, reduceIte, T4, T9, T38] | simp (disch := first | assumption | omega) only [RV, T4, T9, T38])) <;> rfl)))
    | (apply R_cond
       · (simp only [RE, Nat.reduceEqDiff, Nat.reduceLT, Nat.reduceLeDiff, Nat.reduceBEq, reduceIte, T4, T9, T38] <;> rfl))
    | (apply R_grd
       · (simp only [yieldedA, RY, Nat.reduceEqDiff, reduceIte, T4, T9, T38] <;> rfl)))
  refine D_draw [0, 4, 6, 8, 15, 18, 24] (fun _ => True) (by kernel_rfl) ?_
  repeat (first
    | refine D_nil ?_ | refine I_true ?_ | refine I_false ?_
    | ((first | apply D_op | apply D_op0)
       · (first | (simp (maxDischargeDepth := 9) only [RA, Nat.reduceEqDiff, Nat.reduceLT, Nat.reduceLeDiff, Nat.reduceAdd, Nat.reduceSub, Nat.reduceMul, Nat.reduceDiv, Nat.reduceMod, Nat.reducePow, Nat.reduceBEq, Nat.reduceGT, reduceIte, live70 0, T4, T9, T38] <;> rfl) | ((repeat (first | (simp (maxDischargeDepth := 9) only [RA, Nat.reduceEqDiff, Nat.reduceLT, Nat.reduceLeDiff, Nat.reduceAdd, Nat.reduceSub, Nat.reduceMul, Nat.reduceDiv, Nat.reduceMod, Nat.reducePow, Nat.reduceBEq, Nat.reduceGT, reduceIte, live70 0, T4, T9, T38]; done) | simp (maxDischargeDepth := 9) only [RA, Nat.reduceEqDiff, Nat.reduceLT, Nat.reduceLeDiff, Nat.reduceAdd, Nat.reduceSub, Nat.reduceMul, Nat.reduceDiv, Nat.reduceMod, Nat.reducePow, Nat.reduceBEq, Nat.reduceGT, reduceIte, live70 0, T4, T9, T38] | simp (disch := first | assumption | omega) only [RV, live70 0, T4, T9, T38])) <;> rfl))
       · (intro hF; first | exact chk_pure rfl | exact chk_alloc rfl | exact chk_read rfl | exact chk_iso iso70 | exact chk_call iso70 (fun _ _ _ => rfl) | exact chk_iso iso73 | exact chk_call iso73 (fun _ _ _ => rfl) | (exfalso; revert hF; decide) | ((first | refine chk_load ?_ | refine chk_slice ?_ | refine chk_convert ?_ | refine chk_store ?_ | refine chk_call (by kernel_rfl) ?_); simp only [eq_self, ev_tmp, upd_apply, rowsOfV, List.mem_cons, List.not_mem_nil, or_false, forall_eq, forall_eq_or_imp, obj_put, obj_new, nx_new, nx_put, Nat.reduceEqDiff, if_true, if_false, reduceIte, implies_true, and_self, and_true, true_or, or_true, live70 0, T4, T9, T38])))
    | (apply D_grd
       · (simp only [yieldedA, RY, Nat.reduceEqDiff, reduceIte, live70 0, T4, T9, T38] <;> rfl)))
  refine D_fn ?_ (equal73 10 h v w a b ha hb hal hbl) iso73 (fun v4 h4 hp _ r _ hr => hp.2.2 r hr) ?_
  · rfl
  intro v3 h3 ⟨hv3, F3⟩
  subst hv3
  have ha3 := ha.fr0 F3
  have hb3 := hb.fr0 F3
  repeat (first
    | refine D_nil ?_ | refine I_true ?_ | refine I_false ?_
    | ((first | apply D_op | apply D_op0)
       · (first | (simp (maxDischargeDepth := 9) only [RA, Nat.reduceEqDiff, Nat.reduceLT, Nat.reduceLeDiff, Nat.reduceAdd, Nat.reduceSub, Nat.reduceMul, Nat.reduceDiv, Nat.reduceMod, Nat.reducePow, Nat.reduceBEq, Nat.reduceGT, reduceIte, S38str ha3, S38str hb3, RF, str_eql, bool_same, T4, T9, T38] <;> rfl) | ((repeat (first | (simp (maxDischargeDepth := 9) only [RA, Nat.reduceEqDiff, Nat.reduceLT, Nat.reduceLeDiff, Nat.reduceAdd, Nat.reduceSub, Nat.reduceMul, Nat.reduceDiv, Nat.reduceMod, Nat.reducePow, Nat.reduceBEq, Nat.reduceGT, reduceIte, S38str ha3, S38str hb3, RF, str_eql, bool_same, T4, T9, T38]; done) | simp (maxDischargeDepth := 9) only [RA, Nat.reduceEqDiff, Nat.reduceLT, Nat.reduceLeDiff, Nat.reduceAdd, Nat.reduceSub, Nat.reduceMul, Nat.reduceDiv, Nat.reduceMod, Nat.reducePow, Nat.reduceBEq, Nat.reduceGT, reduceIte, S38str ha3, S38str hb3, RF, str_eql, bool_same, T4, T9, T38] | simp (disch := first | assumption | omega) only [RV, S38str ha3, S38str hb3, RF, str_eql, bool_same, T4, T9, T38])) <;> rfl))
       · (intro hF; first | exact chk_pure rfl | exact chk_alloc rfl | exact chk_read rfl | exact chk_iso iso70 | exact chk_call iso70 (fun _ _ _ => rfl) | exact chk_iso iso73 | exact chk_call iso73 (fun _ _ _ => rfl) | (exfalso; revert hF; decide) | ((first | refine chk_load ?_ | refine chk_slice ?_ | refine chk_convert ?_ | refine chk_store ?_ | refine chk_call (by kernel_rfl) ?_); simp only [eq_self, ev_tmp, upd_apply, rowsOfV, List.mem_cons, List.not_mem_nil, or_false, forall_eq, forall_eq_or_imp, obj_put, obj_new, nx_new, nx_put, Nat.reduceEqDiff, if_true, if_false, reduceIte, implies_true, and_self, and_true, true_or, or_true, S38str ha3, S38str hb3, RF, str_eql, bool_same, T4, T9, T38])))
    | (apply D_grd
       · (simp only [yieldedA, RY, Nat.reduceEqDiff, reduceIte, S38str ha3, S38str hb3, RF, str_eql, bool_same, T4, T9, T38] <;> rfl)))
  refine D_fn ?_ (equal73 10 h3 v w a b ha3 hb3 hal hbl) iso73 (fun v4 h4 hp _ r _ hr => hp.2.2 r hr) ?_
  · rfl
  intro v4 h4 ⟨hv4, F4⟩
  subst hv4
  have ha4 := ha3.fr0 F4
  have hb4 := hb3.fr0 F4
  repeat (first
    | refine D_nil ?_ | refine I_true ?_ | refine I_false ?_
    | ((first | apply D_op | apply D_op0)
       · (first | (simp (maxDischargeDepth := 9) only [RA, Nat.reduceEqDiff, Nat.reduceLT, Nat.reduceLeDiff, Nat.reduceAdd, Nat.reduceSub, Nat.reduceMul, Nat.reduceDiv, Nat.reduceMod, Nat.reducePow, Nat.reduceBEq, Nat.reduceGT, reduceIte, bool_same, T4, T9, T38] <;> rfl) | ((repeat (first | (simp (maxDischargeDepth := 9) only [RA, Nat.reduceEqDiff, Nat.reduceLT, Nat.reduceLeDiff, Nat.reduceAdd, Nat.reduceSub, Nat.reduceMul, Nat.reduceDiv, Nat.reduceMod, Nat.reducePow, Nat.reduceBEq, Nat.reduceGT, reduceIte, bool_same, T4, T9, T38]; done) | simp (maxDischargeDepth := 9) only [RA, Nat.reduceEqDiff, Nat.reduceLT, Nat.reduceLeDiff, Nat.reduceAdd, Nat.reduceSub, Nat.reduceMul, Nat.reduceDiv, Nat.reduceMod, Nat.reducePow, Nat.reduceBEq, Nat.reduceGT, reduceIte, bool_same, T4, T9, T38] | simp (disch := first | assumption | omega) only [RV, bool_same, T4, T9, T38])) <;> rfl))
       · (intro hF; first | exact chk_pure rfl | exact chk_alloc rfl | exact chk_read rfl | exact chk_iso iso70 | exact chk_call iso70 (fun _ _ _ => rfl) | exact chk_iso iso73 | exact chk_call iso73 (fun _ _ _ => rfl) | (exfalso; revert hF; decide) | ((first | refine chk_load ?_ | refine chk_slice ?_ | refine chk_convert ?_ | refine chk_store ?_ | refine chk_call (by kernel_rfl) ?_); simp only [eq_self, ev_tmp, upd_apply, rowsOfV, List.mem_cons, List.not_mem_nil, or_false, forall_eq, forall_eq_or_imp, obj_put, obj_new, nx_new, nx_put, Nat.reduceEqDiff, if_true, if_false, reduceIte, implies_true, and_self, and_true, true_or, or_true, bool_same, T4, T9, T38])))
    | (apply D_grd
       · (simp only [yieldedA, RY, Nat.reduceEqDiff, reduceIte, bool_same, T4, T9, T38] <;> rfl)))
  refine D_fn ?_ (equal73 10 h4 w v b a hb4 ha4 hbl hal) iso73 (fun v4 h4 hp _ r _ hr => hp.2.2 r hr) ?_
  · rfl
  intro v5 h5 ⟨hv5, F5⟩
  rw [hc] at hv5
  subst hv5
  have ha5 := ha4.fr0 F5
  repeat (first
    | refine D_nil ?_ | refine I_true ?_ | refine I_false ?_
    | ((first | apply D_op | apply D_op0)
       · (first | (simp (maxDischargeDepth := 9) only [RA, Nat.reduceEqDiff, Nat.reduceLT, Nat.reduceLeDiff, Nat.reduceAdd, Nat.reduceSub, Nat.reduceMul, Nat.reduceDiv, Nat.reduceMod, Nat.reducePow, Nat.reduceBEq, Nat.reduceGT, reduceIte, bool_same, T4, T9, T38] <;> rfl) | ((repeat (first | (simp (maxDischargeDepth := 9) only [RA, Nat.reduceEqDiff, Nat.reduceLT, Nat.reduceLeDiff, Nat.reduceAdd, Nat.reduceSub, Nat.reduceMul, Nat.reduceDiv, Nat.reduceMod, Nat.reducePow, Nat.reduceBEq, Nat.reduceGT, reduceIte, bool_same, T4, T9, T38]; done) | simp (maxDischargeDepth := 9) only [RA, Nat.reduceEqDiff, Nat.reduceLT, Nat.reduceLeDiff, Nat.reduceAdd, Nat.reduceSub, Nat.reduceMul, Nat.reduceDiv, Nat.reduceMod, Nat.reducePow, Nat.reduceBEq, Nat.reduceGT, reduceIte, bool_same, T4, T9, T38] | simp (disch := first | assumption | omega) only [RV, bool_same, T4, T9, T38])) <;> rfl))
       · (intro hF; first | exact chk_pure rfl | exact chk_alloc rfl | exact chk_read rfl | exact chk_iso iso70 | exact chk_call iso70 (fun _ _ _ => rfl) | exact chk_iso iso73 | exact chk_call iso73 (fun _ _ _ => rfl) | (exfalso; revert hF; decide) | ((first | refine chk_load ?_ | refine chk_slice ?_ | refine chk_convert ?_ | refine chk_store ?_ | refine chk_call (by kernel_rfl) ?_); simp only [eq_self, ev_tmp, upd_apply, rowsOfV, List.mem_cons, List.not_mem_nil, or_false, forall_eq, forall_eq_or_imp, obj_put, obj_new, nx_new, nx_put, Nat.reduceEqDiff, if_true, if_false, reduceIte, implies_true, and_self, and_true, true_or, or_true, bool_same, T4, T9, T38])))
    | (apply D_grd
       · (simp only [yieldedA, RY, Nat.reduceEqDiff, reduceIte, bool_same, T4, T9, T38] <;> rfl)))
  refine D_fn ?_ (equal73 10 h5 v v a a ha5 ha5 hal hal) iso73 (fun v4 h4 hp _ r _ hr => hp.2.2 r hr) ?_
  · rfl
  intro v6 h6 ⟨hv6, F6⟩
  subst hv6
  repeat (first
    | refine D_nil ?_ | refine I_true ?_ | refine I_false ?_
    | ((first | apply D_op | apply D_op0)
       · (first | (simp (maxDischargeDepth := 9) only [RA, Nat.reduceEqDiff, Nat.reduceLT, Nat.reduceLeDiff, Nat.reduceAdd, Nat.reduceSub, Nat.reduceMul, Nat.reduceDiv, Nat.reduceMod, Nat.reducePow, Nat.reduceBEq, Nat.reduceGT, reduceIte, T4, T9, T38] <;> rfl) | ((repeat (first | (simp (maxDischargeDepth := 9) only [RA, Nat.reduceEqDiff, Nat.reduceLT, Nat.reduceLeDiff, Nat.reduceAdd, Nat.reduceSub, Nat.reduceMul, Nat.reduceDiv, Nat.reduceMod, Nat.reducePow, Nat.reduceBEq, Nat.reduceGT, reduceIte, T4, T9, T38]; done) | simp (maxDischargeDepth := 9) only [RA, Nat.reduceEqDiff, Nat.reduceLT, Nat.reduceLeDiff, Nat.reduceAdd, Nat.reduceSub, Nat.reduceMul, Nat.reduceDiv, Nat.reduceMod, Nat.reducePow, Nat.reduceBEq, Nat.reduceGT, reduceIte, T4, T9, T38] | simp (disch := first | assumption | omega) only [RV, T4, T9, T38])) <;> rfl))
       · (intro hF; first | exact chk_pure rfl | exact chk_alloc rfl | exact chk_read rfl | exact chk_iso iso70 | exact chk_call iso70 (fun _ _ _ => rfl) | exact chk_iso iso73 | exact chk_call iso73 (fun _ _ _ => rfl) | (exfalso; revert hF; decide) | ((first | refine chk_load ?_ | refine chk_slice ?_ | refine chk_convert ?_ | refine chk_store ?_ | refine chk_call (by kernel_rfl) ?_); simp only [eq_self, ev_tmp, upd_apply, rowsOfV, List.mem_cons, List.not_mem_nil, or_false, forall_eq, forall_eq_or_imp, obj_put, obj_new, nx_new, nx_put, Nat.reduceEqDiff, if_true, if_false, reduceIte, implies_true, and_self, and_true, true_or, or_true, T4, T9, T38])))
    | (apply D_grd
       · (simp only [yieldedA, RY, Nat.reduceEqDiff, reduceIte, T4, T9, T38] <;> rfl)))
  repeat (first
    | refine R_seq ?_ | refine R_region ?_ | refine R_nil ?_ | refine Q_seq ?_ | refine Q_norm ?_ | refine Q_seqr ?_ | refine Q_seqx ?_ | refine Q_bl ?_ | refine Q_blr ?_ | refine Q_blx ?_ | refine Q_blo rfl ?_ | refine R_block ?_ | refine R_skip ?_ | refine R_exit ?_ | refine R_ret ?_ | refine I_true ?_ | refine I_false ?_ | refine N_exit ?_ | refine N_ret ?_
    | ((first | apply R_op | apply R_op0)
       · (first | (simp (maxDischargeDepth := 9) only [RA, Nat.reduceEqDiff, Nat.reduceLT, Nat.reduceLeDiff, Nat.reduceAdd, Nat.reduceSub, Nat.reduceMul, Nat.reduceDiv, Nat.reduceMod, Nat.reducePow, Nat.reduceBEq, Nat.reduceGT, reduceIte, T4, T9, T38] <;> rfl) | ((repeat (first | (simp (maxDischargeDepth := 9) only [RA, Nat.reduceEqDiff, Nat.reduceLT, Nat.reduceLeDiff, Nat.reduceAdd, Nat.reduceSub, Nat.reduceMul, Nat.reduceDiv, Nat.reduceMod, Nat.reducePow, Nat.reduceBEq, Nat.reduceGT, reduceIte, T4, T9, T38]; done) | simp (maxDischargeDepth := 9) only [RA, Nat.reduceEqDiff, Nat.reduceLT, Nat.reduceLeDiff, Nat.reduceAdd, Nat.reduceSub, Nat.reduceMul, Nat.reduceDiv, Nat.reduceMod, Nat.reducePow, Nat.reduceBEq, Nat.reduceGT, reduceIte, T4, T9, T38] | simp (disch := first | assumption | omega) only [RV, T4, T9, T38])) <;> rfl)))
    | (apply R_cond
       · (simp only [RE, Nat.reduceEqDiff, Nat.reduceLT, Nat.reduceLeDiff, Nat.reduceBEq, reduceIte, T4, T9, T38] <;> rfl))
    | (apply R_grd
       · (simp only [yieldedA, RY, Nat.reduceEqDiff, reduceIte, T4, T9, T38] <;> rfl)))
  (first | refine ⟨.inr rfl, _, rfl, ?_⟩ | refine ⟨.inl rfl, _, rfl, ?_⟩) <;> simp only [packR, upd_apply, Nat.reduceEqDiff, if_true, if_false, reduceIte]
set_option maxRecDepth 20000 in
set_option maxHeartbeats 8000000 in
theorem law25 (h : Heap) (v w : Value) (k b : List (BitVec 8)) (hk : By h v k) (hb : By h w b) : ∃ v1 h1, evF (cfg0 Try.prog) 12 25 [v, w] h = some (.ok v1, h1) ∧ v1 = .bool true := by
  rw [evF_eq Try.func25 rfl]
  apply evEnd_of_W
  simp only [Try.f25]
  obtain ⟨v2, e2, k2, r2⟩ := few69 10 _ v k 200 hk
  obtain ⟨v3, e3, b3, r3⟩ := few69 10 _ w b 300 hb
  repeat (first
    | refine R_seq ?_ | refine R_region ?_ | refine R_nil ?_ | refine Q_seq ?_ | refine Q_norm ?_ | refine Q_seqr ?_ | refine Q_seqx ?_ | refine Q_bl ?_ | refine Q_blr ?_ | refine Q_blx ?_ | refine Q_blo rfl ?_ | refine R_block ?_ | refine R_skip ?_ | refine R_exit ?_ | refine R_ret ?_ | refine I_true ?_ | refine I_false ?_ | refine N_exit ?_ | refine N_ret ?_
    | ((first | apply R_op | apply R_op0)
       · (first | (simp (maxDischargeDepth := 9) only [RA, Nat.reduceEqDiff, Nat.reduceLT, Nat.reduceLeDiff, Nat.reduceAdd, Nat.reduceSub, Nat.reduceMul, Nat.reduceDiv, Nat.reduceMod, Nat.reducePow, Nat.reduceBEq, Nat.reduceGT, reduceIte, e2, e3, T3, T9, T30, T38] <;> rfl) | ((repeat (first | (simp (maxDischargeDepth := 9) only [RA, Nat.reduceEqDiff, Nat.reduceLT, Nat.reduceLeDiff, Nat.reduceAdd, Nat.reduceSub, Nat.reduceMul, Nat.reduceDiv, Nat.reduceMod, Nat.reducePow, Nat.reduceBEq, Nat.reduceGT, reduceIte, e2, e3, T3, T9, T30, T38]; done) | simp (maxDischargeDepth := 9) only [RA, Nat.reduceEqDiff, Nat.reduceLT, Nat.reduceLeDiff, Nat.reduceAdd, Nat.reduceSub, Nat.reduceMul, Nat.reduceDiv, Nat.reduceMod, Nat.reducePow, Nat.reduceBEq, Nat.reduceGT, reduceIte, e2, e3, T3, T9, T30, T38] | simp (disch := first | assumption | omega) only [RV, e2, e3, T3, T9, T30, T38])) <;> rfl)))
    | (apply R_cond
       · (simp only [RE, Nat.reduceEqDiff, Nat.reduceLT, Nat.reduceLeDiff, Nat.reduceBEq, reduceIte, e2, e3, T3, T9, T30, T38] <;> rfl))
    | (apply R_grd
       · (simp only [yieldedA, RY, Nat.reduceEqDiff, reduceIte, e2, e3, T3, T9, T30, T38] <;> rfl)))
  have hkl : (k.take 200).length ≤ 200 := by simp; omega
  have hbl : (b.take 300).length ≤ 300 := by simp; omega
  generalize k.take 200 = k at k2 hkl
  generalize b.take 300 = b at b3 hbl
  refine R_app E38 Try.underlying38 (v := emptyS) (w := v2) (lo := h.nx) (xs := []) (ys := k) ?_ ?_ .empty k2 (Nat.le_refl _) (by simp; omega) ?_
  · first | rfl | (first | rw [ev_tmp] | rw [ev_const] | skip) <;> simp only [upd_apply, Nat.reduceEqDiff, if_true, if_false, reduceIte, lit_iv, lit_w8]
  · first | rfl | (first | rw [ev_tmp] | rw [ev_const] | skip) <;> simp only [upd_apply, Nat.reduceEqDiff, if_true, if_false, reduceIte, lit_iv, lit_w8]
  intro v4 h4 own4 wt4
  rw [List.nil_append] at own4
  have F4 : Fr h.nx h h4 := wt4.fr (Nat.le_refl _) (fun r hr => by simp [rowsOfV, emptyS] at hr)
  repeat (first
    | refine R_seq ?_ | refine R_region ?_ | refine R_nil ?_ | refine Q_seq ?_ | refine Q_norm ?_ | refine Q_seqr ?_ | refine Q_seqx ?_ | refine Q_bl ?_ | refine Q_blr ?_ | refine Q_blx ?_ | refine Q_blo rfl ?_ | refine R_block ?_ | refine R_skip ?_ | refine R_exit ?_ | refine R_ret ?_ | refine I_true ?_ | refine I_false ?_ | refine N_exit ?_ | refine N_ret ?_
    | ((first | apply R_op | apply R_op0)
       · (first | (simp (maxDischargeDepth := 9) only [RA, Nat.reduceEqDiff, Nat.reduceLT, Nat.reduceLeDiff, Nat.reduceAdd, Nat.reduceSub, Nat.reduceMul, Nat.reduceDiv, Nat.reduceMod, Nat.reducePow, Nat.reduceBEq, Nat.reduceGT, reduceIte, T3, T9, T30, T38] <;> rfl) | ((repeat (first | (simp (maxDischargeDepth := 9) only [RA, Nat.reduceEqDiff, Nat.reduceLT, Nat.reduceLeDiff, Nat.reduceAdd, Nat.reduceSub, Nat.reduceMul, Nat.reduceDiv, Nat.reduceMod, Nat.reducePow, Nat.reduceBEq, Nat.reduceGT, reduceIte, T3, T9, T30, T38]; done) | simp (maxDischargeDepth := 9) only [RA, Nat.reduceEqDiff, Nat.reduceLT, Nat.reduceLeDiff, Nat.reduceAdd, Nat.reduceSub, Nat.reduceMul, Nat.reduceDiv, Nat.reduceMod, Nat.reducePow, Nat.reduceBEq, Nat.reduceGT, reduceIte, T3, T9, T30, T38] | simp (disch := first | assumption | omega) only [RV, T3, T9, T30, T38])) <;> rfl)))
    | (apply R_cond
       · (simp only [RE, Nat.reduceEqDiff, Nat.reduceLT, Nat.reduceLeDiff, Nat.reduceBEq, reduceIte, T3, T9, T30, T38] <;> rfl))
    | (apply R_grd
       · (simp only [yieldedA, RY, Nat.reduceEqDiff, reduceIte, T3, T9, T30, T38] <;> rfl)))
  refine R_app E38 Try.underlying38 (v := emptyS) (w := v3) (lo := h4.nx) (xs := []) (ys := b) ?_ ?_ .empty (b3.fr0 F4) (Nat.le_refl _) (by simp; omega) ?_
  · first | rfl | (first | rw [ev_tmp] | rw [ev_const] | skip) <;> simp only [upd_apply, Nat.reduceEqDiff, if_true, if_false, reduceIte, lit_iv, lit_w8]
  · first | rfl | (first | rw [ev_tmp] | rw [ev_const] | skip) <;> simp only [upd_apply, Nat.reduceEqDiff, if_true, if_false, reduceIte, lit_iv, lit_w8]
  intro v5 h5 own5 wt5
  rw [List.nil_append] at own5
  have F5 : Fr h4.nx h4 h5 := wt5.fr (Nat.le_refl _) (fun r hr => by simp [rowsOfV, emptyS] at hr)
  have k25 : By h5 v2 k := (k2.fr0 F4).fr0 F5
  have b35 : By h5 v3 b := (b3.fr0 F4).fr0 F5
  have k45 : By h5 v4 k := own4.sl.fr0 F5
  have b55 : By h5 v5 b := own5.sl
  repeat (first
    | refine R_seq ?_ | refine R_region ?_ | refine R_nil ?_ | refine Q_seq ?_ | refine Q_norm ?_ | refine Q_seqr ?_ | refine Q_seqx ?_ | refine Q_bl ?_ | refine Q_blr ?_ | refine Q_blx ?_ | refine Q_blo rfl ?_ | refine R_block ?_ | refine R_skip ?_ | refine R_exit ?_ | refine R_ret ?_ | refine I_true ?_ | refine I_false ?_ | refine N_exit ?_ | refine N_ret ?_
    | ((first | apply R_op | apply R_op0)
       · (first | (simp (maxDischargeDepth := 9) only [RA, Nat.reduceEqDiff, Nat.reduceLT, Nat.reduceLeDiff, Nat.reduceAdd, Nat.reduceSub, Nat.reduceMul, Nat.reduceDiv, Nat.reduceMod, Nat.reducePow, Nat.reduceBEq, Nat.reduceGT, reduceIte, live70 0, T3, T9, T30, T38] <;> rfl) | ((repeat (first | (simp (maxDischargeDepth := 9) only [RA, Nat.reduceEqDiff, Nat.reduceLT, Nat.reduceLeDiff, Nat.reduceAdd, Nat.reduceSub, Nat.reduceMul, Nat.reduceDiv, Nat.reduceMod, Nat.reducePow, Nat.reduceBEq, Nat.reduceGT, reduceIte, live70 0, T3, T9, T30, T38]; done) | simp (maxDischargeDepth := 9) only [RA, Nat.reduceEqDiff, Nat.reduceLT, Nat.reduceLeDiff, Nat.reduceAdd, Nat.reduceSub, Nat.reduceMul, Nat.reduceDiv, Nat.reduceMod, Nat.reducePow, Nat.reduceBEq, Nat.reduceGT, reduceIte, live70 0, T3, T9, T30, T38] | simp (disch := first | assumption | omega) only [RV, live70 0, T3, T9, T30, T38])) <;> rfl)))
    | (apply R_cond
       · (simp only [RE, Nat.reduceEqDiff, Nat.reduceLT, Nat.reduceLeDiff, Nat.reduceBEq, reduceIte, live70 0, T3, T9, T30, T38] <;> rfl))
    | (apply R_grd
       · (simp only [yieldedA, RY, Nat.reduceEqDiff, reduceIte, live70 0, T3, T9, T30, T38] <;> rfl)))
  refine R_fn ?_ (hmac68 2 h5 v4 v5 k b k45 b55 (by omega) (by omega)) ?_
  · rfl
  intro v6 h6 ⟨hv6, F6⟩
  subst hv6
  repeat (first
    | refine R_seq ?_ | refine R_region ?_ | refine R_nil ?_ | refine Q_seq ?_ | refine Q_norm ?_ | refine Q_seqr ?_ | refine Q_seqx ?_ | refine Q_bl ?_ | refine Q_blr ?_ | refine Q_blx ?_ | refine Q_blo rfl ?_ | refine R_block ?_ | refine R_skip ?_ | refine R_exit ?_ | refine R_ret ?_ | refine I_true ?_ | refine I_false ?_ | refine N_exit ?_ | refine N_ret ?_
    | ((first | apply R_op | apply R_op0)
       · (first | (simp (maxDischargeDepth := 9) only [RA, Nat.reduceEqDiff, Nat.reduceLT, Nat.reduceLeDiff, Nat.reduceAdd, Nat.reduceSub, Nat.reduceMul, Nat.reduceDiv, Nat.reduceMod, Nat.reducePow, Nat.reduceBEq, Nat.reduceGT, reduceIte, T3, T9, T30, T38] <;> rfl) | ((repeat (first | (simp (maxDischargeDepth := 9) only [RA, Nat.reduceEqDiff, Nat.reduceLT, Nat.reduceLeDiff, Nat.reduceAdd, Nat.reduceSub, Nat.reduceMul, Nat.reduceDiv, Nat.reduceMod, Nat.reducePow, Nat.reduceBEq, Nat.reduceGT, reduceIte, T3, T9, T30, T38]; done) | simp (maxDischargeDepth := 9) only [RA, Nat.reduceEqDiff, Nat.reduceLT, Nat.reduceLeDiff, Nat.reduceAdd, Nat.reduceSub, Nat.reduceMul, Nat.reduceDiv, Nat.reduceMod, Nat.reducePow, Nat.reduceBEq, Nat.reduceGT, reduceIte, T3, T9, T30, T38] | simp (disch := first | assumption | omega) only [RV, T3, T9, T30, T38])) <;> rfl)))
    | (apply R_cond
       · (simp only [RE, Nat.reduceEqDiff, Nat.reduceLT, Nat.reduceLeDiff, Nat.reduceBEq, reduceIte, T3, T9, T30, T38] <;> rfl))
    | (apply R_grd
       · (simp only [yieldedA, RY, Nat.reduceEqDiff, reduceIte, T3, T9, T30, T38] <;> rfl)))
  refine R_fn ?_ (hmac71 4 h6 v2 v3 k b (k25.fr0 F6) (b35.fr0 F6) (by omega) (by omega)) ?_
  · rfl
  intro v7 h7 ⟨hv7, F7⟩
  subst hv7
  have k27 : By h7 v2 k := (k25.fr0 F6).fr0 F7
  have b37 : By h7 v3 b := (b35.fr0 F6).fr0 F7
  have k47 : By h7 v4 k := (k45.fr0 F6).fr0 F7
  have b57 : By h7 v5 b := (b55.fr0 F6).fr0 F7
  repeat (first
    | refine R_seq ?_ | refine R_region ?_ | refine R_nil ?_ | refine Q_seq ?_ | refine Q_norm ?_ | refine Q_seqr ?_ | refine Q_seqx ?_ | refine Q_bl ?_ | refine Q_blr ?_ | refine Q_blx ?_ | refine Q_blo rfl ?_ | refine R_block ?_ | refine R_skip ?_ | refine R_exit ?_ | refine R_ret ?_ | refine I_true ?_ | refine I_false ?_ | refine N_exit ?_ | refine N_ret ?_
    | ((first | apply R_op | apply R_op0)
       · (first | (simp (maxDischargeDepth := 9) only [RA, Nat.reduceEqDiff, Nat.reduceLT, Nat.reduceLeDiff, Nat.reduceAdd, Nat.reduceSub, Nat.reduceMul, Nat.reduceDiv, Nat.reduceMod, Nat.reducePow, Nat.reduceBEq, Nat.reduceGT, reduceIte, beq30 (hmacS_length k b) (hmacS_length k b), S38str k27, S38str k47, S38str b37, S38str b57, RF, str_eql, T3, T9, T30, T38] <;> rfl) | ((repeat (first | (simp (maxDischargeDepth := 9) only [RA, Nat.reduceEqDiff, Nat.reduceLT, Nat.reduceLeDiff, Nat.reduceAdd, Nat.reduceSub, Nat.reduceMul, Nat.reduceDiv, Nat.reduceMod, Nat.reducePow, Nat.reduceBEq, Nat.reduceGT, reduceIte, beq30 (hmacS_length k b) (hmacS_length k b), S38str k27, S38str k47, S38str b37, S38str b57, RF, str_eql, T3, T9, T30, T38]; done) | simp (maxDischargeDepth := 9) only [RA, Nat.reduceEqDiff, Nat.reduceLT, Nat.reduceLeDiff, Nat.reduceAdd, Nat.reduceSub, Nat.reduceMul, Nat.reduceDiv, Nat.reduceMod, Nat.reducePow, Nat.reduceBEq, Nat.reduceGT, reduceIte, beq30 (hmacS_length k b) (hmacS_length k b), S38str k27, S38str k47, S38str b37, S38str b57, RF, str_eql, T3, T9, T30, T38] | simp (disch := first | assumption | omega) only [RV, beq30 (hmacS_length k b) (hmacS_length k b), S38str k27, S38str k47, S38str b37, S38str b57, RF, str_eql, T3, T9, T30, T38])) <;> rfl)))
    | (apply R_cond
       · (simp only [RE, Nat.reduceEqDiff, Nat.reduceLT, Nat.reduceLeDiff, Nat.reduceBEq, reduceIte, beq30 (hmacS_length k b) (hmacS_length k b), S38str k27, S38str k47, S38str b37, S38str b57, RF, str_eql, T3, T9, T30, T38] <;> rfl))
    | (apply R_grd
       · (simp only [yieldedA, RY, Nat.reduceEqDiff, reduceIte, beq30 (hmacS_length k b) (hmacS_length k b), S38str k27, S38str k47, S38str b37, S38str b57, RF, str_eql, T3, T9, T30, T38] <;> rfl)))
  (first | refine ⟨.inr rfl, _, rfl, ?_⟩ | refine ⟨.inl rfl, _, rfl, ?_⟩) <;> simp only [packR, upd_apply, Nat.reduceEqDiff, if_true, if_false, reduceIte]
set_option maxRecDepth 20000 in
set_option maxHeartbeats 8000000 in
theorem law30 (h : Heap) (key : List (BitVec 8)) (hk : key.length = 32) (z : Value) (hz : (∃ n, n < 9223372036854775808 ∧ z = iv n) ∨ ∃ n, 0 < n ∧ z = nv n) : ∃ v1 h1, evF (cfg0 Try.prog) 12 30 [.agg ⟨b8 key⟩, z] h = some (.ok v1, h1) ∧ v1 = .bool true := by
  rw [evF_eq Try.func30 rfl]
  apply evEnd_of_W
  simp only [Try.f30]
  have hck := fun (kd : Kind) (es : Nat) => cut8 (k := kd) (es := es) hk
  have bad : badLen z → (h0 : Heap) → ∃ v' h', fcall Try.prog 11 (.func (.func 72) #[] #[]) [.agg ⟨b8 key⟩, .slice none 0 0, z] h0 = some (.ok v', h') ∧ v' = .tuple #[.slice none 0 0, iv 2] ∧ Fr h0.nx h0 h' := fun hb h0 => exp72bad 10 h0 key (.slice none 0 0) z hk hb
  rcases hz with ⟨n, hn, rfl⟩ | ⟨n, hn, rfl⟩
  · have h0n : 0 ≤ n := Nat.zero_le _
    by_cases hle : n ≤ 8160
    · have hm : n % 65 < 65 := Nat.mod_lt _ (by decide)
      repeat (first
        | refine R_seq ?_ | refine R_region ?_ | refine R_nil ?_ | refine Q_seq ?_ | refine Q_norm ?_ | refine Q_seqr ?_ | refine Q_seqx ?_ | refine Q_bl ?_ | refine Q_blr ?_ | refine Q_blx ?_ | refine Q_blo rfl ?_ | refine R_block ?_ | refine R_skip ?_ | refine R_exit ?_ | refine R_ret ?_ | refine I_true ?_ | refine I_false ?_ | refine N_exit ?_ | refine N_ret ?_
        | ((first | apply R_op | apply R_op0)
           · (first | (simp (maxDischargeDepth := 9) only [RA, Nat.reduceEqDiff, Nat.reduceLT, Nat.reduceLeDiff, Nat.reduceAdd, Nat.reduceSub, Nat.reduceMul, Nat.reduceDiv, Nat.reduceMod, Nat.reducePow, Nat.reduceBEq, Nat.reduceGT, reduceIte, h0n, hle, hck, T1, T3, T30, T38, T66] <;> rfl) | ((repeat (first | (simp (maxDischargeDepth := 9) only [RA, Nat.reduceEqDiff, Nat.reduceLT, Nat.reduceLeDiff, Nat.reduceAdd, Nat.reduceSub, Nat.reduceMul, Nat.reduceDiv, Nat.reduceMod, Nat.reducePow, Nat.reduceBEq, Nat.reduceGT, reduceIte, h0n, hle, hck, T1, T3, T30, T38, T66]; done) | simp (maxDischargeDepth := 9) only [RA, Nat.reduceEqDiff, Nat.reduceLT, Nat.reduceLeDiff, Nat.reduceAdd, Nat.reduceSub, Nat.reduceMul, Nat.reduceDiv, Nat.reduceMod, Nat.reducePow, Nat.reduceBEq, Nat.reduceGT, reduceIte, h0n, hle, hck, T1, T3, T30, T38, T66] | simp (disch := first | assumption | omega) only [RV, h0n, hle, hck, T1, T3, T30, T38, T66])) <;> rfl)))
        | (apply R_cond
           · (simp only [RE, Nat.reduceEqDiff, Nat.reduceLT, Nat.reduceLeDiff, Nat.reduceBEq, reduceIte, h0n, hle, hck, T1, T3, T30, T38, T66] <;> rfl))
        | (apply R_grd
           · (simp only [yieldedA, RY, Nat.reduceEqDiff, reduceIte, h0n, hle, hck, T1, T3, T30, T38, T66] <;> rfl)))
      refine R_fn ?_ (exp72 1 _ key (.slice none 0 0) [] (n % 65) hk .nil (by simp) (by omega)) ?_
      · rfl
      intro v2 h2 ⟨⟨v3, hv2, b3⟩, F2⟩
      subst hv2
      have l3 := S38len b3
      rw [expS_length] at l3
      repeat (first
        | refine R_seq ?_ | refine R_region ?_ | refine R_nil ?_ | refine Q_seq ?_ | refine Q_norm ?_ | refine Q_seqr ?_ | refine Q_seqx ?_ | refine Q_bl ?_ | refine Q_blr ?_ | refine Q_blx ?_ | refine Q_blo rfl ?_ | refine R_block ?_ | refine R_skip ?_ | refine R_exit ?_ | refine R_ret ?_ | refine I_true ?_ | refine I_false ?_ | refine N_exit ?_ | refine N_ret ?_
        | ((first | apply R_op | apply R_op0)
           · (first | (simp (maxDischargeDepth := 9) only [RA, Nat.reduceEqDiff, Nat.reduceLT, Nat.reduceLeDiff, Nat.reduceAdd, Nat.reduceSub, Nat.reduceMul, Nat.reduceDiv, Nat.reduceMod, Nat.reducePow, Nat.reduceBEq, Nat.reduceGT, reduceIte, live70 0, l3, T1, T3, T30, T38, T66] <;> rfl) | ((repeat (first | (simp (maxDischargeDepth := 9) only [RA, Nat.reduceEqDiff, Nat.reduceLT, Nat.reduceLeDiff, Nat.reduceAdd, Nat.reduceSub, Nat.reduceMul, Nat.reduceDiv, Nat.reduceMod, Nat.reducePow, Nat.reduceBEq, Nat.reduceGT, reduceIte, live70 0, l3, T1, T3, T30, T38, T66]; done) | simp (maxDischargeDepth := 9) only [RA, Nat.reduceEqDiff, Nat.reduceLT, Nat.reduceLeDiff, Nat.reduceAdd, Nat.reduceSub, Nat.reduceMul, Nat.reduceDiv, Nat.reduceMod, Nat.reducePow, Nat.reduceBEq, Nat.reduceGT, reduceIte, live70 0, l3, T1, T3, T30, T38, T66] | simp (disch := first | assumption | omega) only [RV, live70 0, l3, T1, T3, T30, T38, T66])) <;> rfl)))
        | (apply R_cond
           · (simp only [RE, Nat.reduceEqDiff, Nat.reduceLT, Nat.reduceLeDiff, Nat.reduceBEq, reduceIte, live70 0, l3, T1, T3, T30, T38, T66] <;> rfl))
        | (apply R_grd
           · (simp only [yieldedA, RY, Nat.reduceEqDiff, reduceIte, live70 0, l3, T1, T3, T30, T38, T66] <;> rfl)))
      (first | refine ⟨.inr rfl, _, rfl, ?_⟩ | refine ⟨.inl rfl, _, rfl, ?_⟩) <;> simp only [packR, upd_apply, Nat.reduceEqDiff, if_true, if_false, reduceIte]
    · repeat (first
      | refine R_seq ?_ | refine R_region ?_ | refine R_nil ?_ | refine Q_seq ?_ | refine Q_norm ?_ | refine Q_seqr ?_ | refine Q_seqx ?_ | refine Q_bl ?_ | refine Q_blr ?_ | refine Q_blx ?_ | refine Q_blo rfl ?_ | refine R_block ?_ | refine R_skip ?_ | refine R_exit ?_ | refine R_ret ?_ | refine I_true ?_ | refine I_false ?_ | refine N_exit ?_ | refine N_ret ?_
      | ((first | apply R_op | apply R_op0)
         · (first | (simp (maxDischargeDepth := 9) only [RA, Nat.reduceEqDiff, Nat.reduceLT, Nat.reduceLeDiff, Nat.reduceAdd, Nat.reduceSub, Nat.reduceMul, Nat.reduceDiv, Nat.reduceMod, Nat.reducePow, Nat.reduceBEq, Nat.reduceGT, reduceIte, h0n, hle, hck, T1, T3, T30, T38, T66] <;> rfl) | ((repeat (first | (simp (maxDischargeDepth := 9) only [RA, Nat.reduceEqDiff, Nat.reduceLT, Nat.reduceLeDiff, Nat.reduceAdd, Nat.reduceSub, Nat.reduceMul, Nat.reduceDiv, Nat.reduceMod, Nat.reducePow, Nat.reduceBEq, Nat.reduceGT, reduceIte, h0n, hle, hck, T1, T3, T30, T38, T66]; done) | simp (maxDischargeDepth := 9) only [RA, Nat.reduceEqDiff, Nat.reduceLT, Nat.reduceLeDiff, Nat.reduceAdd, Nat.reduceSub, Nat.reduceMul, Nat.reduceDiv, Nat.reduceMod, Nat.reducePow, Nat.reduceBEq, Nat.reduceGT, reduceIte, h0n, hle, hck, T1, T3, T30, T38, T66] | simp (disch := first | assumption | omega) only [RV, h0n, hle, hck, T1, T3, T30, T38, T66])) <;> rfl)))
      | (apply R_cond
         · (simp only [RE, Nat.reduceEqDiff, Nat.reduceLT, Nat.reduceLeDiff, Nat.reduceBEq, reduceIte, h0n, hle, hck, T1, T3, T30, T38, T66] <;> rfl))
      | (apply R_grd
         · (simp only [yieldedA, RY, Nat.reduceEqDiff, reduceIte, h0n, hle, hck, T1, T3, T30, T38, T66] <;> rfl)))
      refine R_fn ?_ (bad (.inr ⟨n, by omega, rfl⟩) _) ?_
      · rfl
      intro v2 h2 ⟨hv2, F2⟩
      subst hv2
      repeat (first
        | refine R_seq ?_ | refine R_region ?_ | refine R_nil ?_ | refine Q_seq ?_ | refine Q_norm ?_ | refine Q_seqr ?_ | refine Q_seqx ?_ | refine Q_bl ?_ | refine Q_blr ?_ | refine Q_blx ?_ | refine Q_blo rfl ?_ | refine R_block ?_ | refine R_skip ?_ | refine R_exit ?_ | refine R_ret ?_ | refine I_true ?_ | refine I_false ?_ | refine N_exit ?_ | refine N_ret ?_
        | ((first | apply R_op | apply R_op0)
           · (first | (simp (maxDischargeDepth := 9) only [RA, Nat.reduceEqDiff, Nat.reduceLT, Nat.reduceLeDiff, Nat.reduceAdd, Nat.reduceSub, Nat.reduceMul, Nat.reduceDiv, Nat.reduceMod, Nat.reducePow, Nat.reduceBEq, Nat.reduceGT, reduceIte, live70 0, T1, T3, T30, T38, T66] <;> rfl) | ((repeat (first | (simp (maxDischargeDepth := 9) only [RA, Nat.reduceEqDiff, Nat.reduceLT, Nat.reduceLeDiff, Nat.reduceAdd, Nat.reduceSub, Nat.reduceMul, Nat.reduceDiv, Nat.reduceMod, Nat.reducePow, Nat.reduceBEq, Nat.reduceGT, reduceIte, live70 0, T1, T3, T30, T38, T66]; done) | simp (maxDischargeDepth := 9) only [RA, Nat.reduceEqDiff, Nat.reduceLT, Nat.reduceLeDiff, Nat.reduceAdd, Nat.reduceSub, Nat.reduceMul, Nat.reduceDiv, Nat.reduceMod, Nat.reducePow, Nat.reduceBEq, Nat.reduceGT, reduceIte, live70 0, T1, T3, T30, T38, T66] | simp (disch := first | assumption | omega) only [RV, live70 0, T1, T3, T30, T38, T66])) <;> rfl)))
        | (apply R_cond
           · (simp only [RE, Nat.reduceEqDiff, Nat.reduceLT, Nat.reduceLeDiff, Nat.reduceBEq, reduceIte, live70 0, T1, T3, T30, T38, T66] <;> rfl))
        | (apply R_grd
           · (simp only [yieldedA, RY, Nat.reduceEqDiff, reduceIte, live70 0, T1, T3, T30, T38, T66] <;> rfl)))
      (first | refine ⟨.inr rfl, _, rfl, ?_⟩ | refine ⟨.inl rfl, _, rfl, ?_⟩) <;> simp only [packR, upd_apply, Nat.reduceEqDiff, if_true, if_false, reduceIte]
  · repeat (first
    | refine R_seq ?_ | refine R_region ?_ | refine R_nil ?_ | refine Q_seq ?_ | refine Q_norm ?_ | refine Q_seqr ?_ | refine Q_seqx ?_ | refine Q_bl ?_ | refine Q_blr ?_ | refine Q_blx ?_ | refine Q_blo rfl ?_ | refine R_block ?_ | refine R_skip ?_ | refine R_exit ?_ | refine R_ret ?_ | refine I_true ?_ | refine I_false ?_ | refine N_exit ?_ | refine N_ret ?_
    | ((first | apply R_op | apply R_op0)
       · (first | (simp (maxDischargeDepth := 9) only [RA, Nat.reduceEqDiff, Nat.reduceLT, Nat.reduceLeDiff, Nat.reduceAdd, Nat.reduceSub, Nat.reduceMul, Nat.reduceDiv, Nat.reduceMod, Nat.reducePow, Nat.reduceBEq, Nat.reduceGT, reduceIte, nv_geq n 0 hn, hck, T1, T3, T30, T38, T66] <;> rfl) | ((repeat (first | (simp (maxDischargeDepth := 9) only [RA, Nat.reduceEqDiff, Nat.reduceLT, Nat.reduceLeDiff, Nat.reduceAdd, Nat.reduceSub, Nat.reduceMul, Nat.reduceDiv, Nat.reduceMod, Nat.reducePow, Nat.reduceBEq, Nat.reduceGT, reduceIte, nv_geq n 0 hn, hck, T1, T3, T30, T38, T66]; done) | simp (maxDischargeDepth := 9) only [RA, Nat.reduceEqDiff, Nat.reduceLT, Nat.reduceLeDiff, Nat.reduceAdd, Nat.reduceSub, Nat.reduceMul, Nat.reduceDiv, Nat.reduceMod, Nat.reducePow, Nat.reduceBEq, Nat.reduceGT, reduceIte, nv_geq n 0 hn, hck, T1, T3, T30, T38, T66] | simp (disch := first | assumption | omega) only [RV, nv_geq n 0 hn, hck, T1, T3, T30, T38, T66])) <;> rfl)))
    | (apply R_cond
       · (simp only [RE, Nat.reduceEqDiff, Nat.reduceLT, Nat.reduceLeDiff, Nat.reduceBEq, reduceIte, nv_geq n 0 hn, hck, T1, T3, T30, T38, T66] <;> rfl))
    | (apply R_grd
       · (simp only [yieldedA, RY, Nat.reduceEqDiff, reduceIte, nv_geq n 0 hn, hck, T1, T3, T30, T38, T66] <;> rfl)))
    refine R_fn ?_ (bad (.inl ⟨n, hn, rfl⟩) _) ?_
    · rfl
    intro v2 h2 ⟨hv2, F2⟩
    subst hv2
    repeat (first
      | refine R_seq ?_ | refine R_region ?_ | refine R_nil ?_ | refine Q_seq ?_ | refine Q_norm ?_ | refine Q_seqr ?_ | refine Q_seqx ?_ | refine Q_bl ?_ | refine Q_blr ?_ | refine Q_blx ?_ | refine Q_blo rfl ?_ | refine R_block ?_ | refine R_skip ?_ | refine R_exit ?_ | refine R_ret ?_ | refine I_true ?_ | refine I_false ?_ | refine N_exit ?_ | refine N_ret ?_
      | ((first | apply R_op | apply R_op0)
         · (first | (simp (maxDischargeDepth := 9) only [RA, Nat.reduceEqDiff, Nat.reduceLT, Nat.reduceLeDiff, Nat.reduceAdd, Nat.reduceSub, Nat.reduceMul, Nat.reduceDiv, Nat.reduceMod, Nat.reducePow, Nat.reduceBEq, Nat.reduceGT, reduceIte, live70 0, T1, T3, T30, T38, T66] <;> rfl) | ((repeat (first | (simp (maxDischargeDepth := 9) only [RA, Nat.reduceEqDiff, Nat.reduceLT, Nat.reduceLeDiff, Nat.reduceAdd, Nat.reduceSub, Nat.reduceMul, Nat.reduceDiv, Nat.reduceMod, Nat.reducePow, Nat.reduceBEq, Nat.reduceGT, reduceIte, live70 0, T1, T3, T30, T38, T66]; done) | simp (maxDischargeDepth := 9) only [RA, Nat.reduceEqDiff, Nat.reduceLT, Nat.reduceLeDiff, Nat.reduceAdd, Nat.reduceSub, Nat.reduceMul, Nat.reduceDiv, Nat.reduceMod, Nat.reducePow, Nat.reduceBEq, Nat.reduceGT, reduceIte, live70 0, T1, T3, T30, T38, T66] | simp (disch := first | assumption | omega) only [RV, live70 0, T1, T3, T30, T38, T66])) <;> rfl)))
      | (apply R_cond
         · (simp only [RE, Nat.reduceEqDiff, Nat.reduceLT, Nat.reduceLeDiff, Nat.reduceBEq, reduceIte, live70 0, T1, T3, T30, T38, T66] <;> rfl))
      | (apply R_grd
         · (simp only [yieldedA, RY, Nat.reduceEqDiff, reduceIte, live70 0, T1, T3, T30, T38, T66] <;> rfl)))
    (first | refine ⟨.inr rfl, _, rfl, ?_⟩ | refine ⟨.inl rfl, _, rfl, ?_⟩) <;> simp only [packR, upd_apply, Nat.reduceEqDiff, if_true, if_false, reduceIte]
set_option maxRecDepth 20000 in
set_option maxHeartbeats 8000000 in
theorem law26 (h : Heap) (key : List (BitVec 8)) (hk : key.length = 32) (w : Value) (b : List (BitVec 8)) (hb : By h w b) (x y : BitVec 8) : ∃ v1 h1, evF (cfg0 Try.prog) 12 26 [.agg ⟨b8 key⟩, w, .agg ⟨[w8 x, w8 y]⟩] h = some (.ok v1, h1) ∧ v1 = .bool true := by
  rw [evF_eq Try.func26 rfl]
  apply evEnd_of_W
  simp only [Try.f26]
  have hck := fun (kd : Kind) (es : Nat) => cut8 (k := kd) (es := es) hk
  obtain ⟨v2, e2, b2, r2⟩ := few69 10 (newRowH (newRowH h .rw 1 (b8 key)) .rw 1 [w8 x, w8 y]) w b 100 (hb.fr0 (by (repeat (first | assumption | exact Fr.refl _ _ | refine Fr.new ?_ ?_ _ _ _ | refine Fr.put ?_ ?_ _ | omega | (simp only [RH]; omega)))))
  have hx := x.isLt
  have hy := y.isLt
  have hx2 : x.toNat < 9223372036854775808 := by omega
  have hy2 : y.toNat < 9223372036854775808 := by omega
  obtain ⟨H, hH⟩ : ∃ H, H = newRowH (newRowH h .rw 1 (b8 key)) .rw 1 [w8 x, w8 y] := ⟨_, rfl⟩
  repeat (first
    | refine R_seq ?_ | refine R_region ?_ | refine R_nil ?_ | refine Q_seq ?_ | refine Q_norm ?_ | refine Q_seqr ?_ | refine Q_seqx ?_ | refine Q_bl ?_ | refine Q_blr ?_ | refine Q_blx ?_ | refine Q_blo rfl ?_ | refine R_block ?_ | refine R_skip ?_ | refine R_exit ?_ | refine R_ret ?_ | refine I_true ?_ | refine I_false ?_ | refine N_exit ?_ | refine N_ret ?_
    | (refine R_draw (by kernel_rfl) ?_)
    | ((first | apply R_op | apply R_op0)
       · (first | (simp (maxDischargeDepth := 9) only [RA, Nat.reduceEqDiff, Nat.reduceLT, Nat.reduceLeDiff, Nat.reduceAdd, Nat.reduceSub, Nat.reduceMul, Nat.reduceDiv, Nat.reduceMod, Nat.reducePow, Nat.reduceBEq, Nat.reduceGT, reduceIte, e2, hk, hx2, hy2, T1, T3, T5, T9, T30, T38, T65, T66, cv8_i Try.underlying5 Try.underlying3] <;> rfl) | ((repeat (first | (simp (maxDischargeDepth := 9) only [RA, Nat.reduceEqDiff, Nat.reduceLT, Nat.reduceLeDiff, Nat.reduceAdd, Nat.reduceSub, Nat.reduceMul, Nat.reduceDiv, Nat.reduceMod, Nat.reducePow, Nat.reduceBEq, Nat.reduceGT, reduceIte, e2, hk, hx2, hy2, T1, T3, T5, T9, T30, T38, T65, T66, cv8_i Try.underlying5 Try.underlying3]; done) | simp (maxDischargeDepth := 9) only [RA, Nat.reduceEqDiff, Nat.reduceLT, Nat.reduceLeDiff, Nat.reduceAdd, Nat.reduceSub, Nat.reduceMul, Nat.reduceDiv, Nat.reduceMod, Nat.reducePow, Nat.reduceBEq, Nat.reduceGT, reduceIte, e2, hk, hx2, hy2, T1, T3, T5, T9, T30, T38, T65, T66, cv8_i Try.underlying5 Try.underlying3] | simp (disch := first | assumption | omega) only [RV, e2, hk, hx2, hy2, T1, T3, T5, T9, T30, T38, T65, T66, cv8_i Try.underlying5 Try.underlying3])) <;> rfl)))
    | (apply R_cond
       · (simp only [RE, Nat.reduceEqDiff, Nat.reduceLT, Nat.reduceLeDiff, Nat.reduceBEq, reduceIte, e2, hk, hx2, hy2, T1, T3, T5, T9, T30, T38, T65, T66, cv8_i Try.underlying5 Try.underlying3] <;> rfl))
    | (apply R_grd
       · (simp only [yieldedA, RY, Nat.reduceEqDiff, reduceIte, e2, hk, hx2, hy2, T1, T3, T5, T9, T30, T38, T65, T66, cv8_i Try.underlying5 Try.underlying3] <;> rfl)))
  rw [← hH] at b2 ⊢
  have o0 : H.obj h.nx = some (.row .rw 1 (b8 key)) := by rw [hH]; simp [RH]
  have n0 : h.nx < H.nx := by rw [hH]; simp [RH]
  clear hH
  have hbl : (b.take 100).length ≤ 100 := by simp; omega
  generalize b.take 100 = b at b2 hbl
  refine I_join (fun e3 h3 => ∃ m M, m ≤ M ∧ M ≤ 255 ∧ e3 7 = iv m ∧ e3 8 = iv M ∧ e3 1 = v2 ∧ e3 3 = .pointer (some ⟨h.nx, 0, none⟩) ∧ h3 = H) ?_ ?_ ?_
  · intro hlt
    repeat (first
      | refine R_seq ?_ | refine R_region ?_ | refine R_nil ?_ | refine Q_seq ?_ | refine Q_norm ?_ | refine Q_seqr ?_ | refine Q_seqx ?_ | refine Q_bl ?_ | refine Q_blr ?_ | refine Q_blx ?_ | refine Q_blo rfl ?_ | refine R_block ?_ | refine R_skip ?_ | refine R_exit ?_ | refine R_ret ?_ | refine I_true ?_ | refine I_false ?_ | refine N_exit ?_ | refine N_ret ?_
      | (refine R_draw (by kernel_rfl) ?_)
      | ((first | apply R_op | apply R_op0)
         · (first | (simp (maxDischargeDepth := 9) only [RA, Nat.reduceEqDiff, Nat.reduceLT, Nat.reduceLeDiff, Nat.reduceAdd, Nat.reduceSub, Nat.reduceMul, Nat.reduceDiv, Nat.reduceMod, Nat.reducePow, Nat.reduceBEq, Nat.reduceGT, reduceIte, T1, T3, T5, T9, T30, T38, T65, T66, cv8_i Try.underlying5 Try.underlying3] <;> rfl) | ((repeat (first | (simp (maxDischargeDepth := 9) only [RA, Nat.reduceEqDiff, Nat.reduceLT, Nat.reduceLeDiff, Nat.reduceAdd, Nat.reduceSub, Nat.reduceMul, Nat.reduceDiv, Nat.reduceMod, Nat.reducePow, Nat.reduceBEq, Nat.reduceGT, reduceIte, T1, T3, T5, T9, T30, T38, T65, T66, cv8_i Try.underlying5 Try.underlying3]; done) | simp (maxDischargeDepth := 9) only [RA, Nat.reduceEqDiff, Nat.reduceLT, Nat.reduceLeDiff, Nat.reduceAdd, Nat.reduceSub, Nat.reduceMul, Nat.reduceDiv, Nat.reduceMod, Nat.reducePow, Nat.reduceBEq, Nat.reduceGT, reduceIte, T1, T3, T5, T9, T30, T38, T65, T66, cv8_i Try.underlying5 Try.underlying3] | simp (disch := first | assumption | omega) only [RV, T1, T3, T5, T9, T30, T38, T65, T66, cv8_i Try.underlying5 Try.underlying3])) <;> rfl)))
      | (apply R_cond
         · (simp only [RE, Nat.reduceEqDiff, Nat.reduceLT, Nat.reduceLeDiff, Nat.reduceBEq, reduceIte, T1, T3, T5, T9, T30, T38, T65, T66, cv8_i Try.underlying5 Try.underlying3] <;> rfl))
      | (apply R_grd
         · (simp only [yieldedA, RY, Nat.reduceEqDiff, reduceIte, T1, T3, T5, T9, T30, T38, T65, T66, cv8_i Try.underlying5 Try.underlying3] <;> rfl)))
    exact ⟨rfl, y.toNat, x.toNat, by omega, by omega, by (try simp only [List.map_cons, List.map_nil, RH, Nat.reduceAdd, Nat.reduceEqDiff, reduceIte, ev_tmp, ev_const, lit_iv, lit_w8, lit_w32, lit_w64, envOf0, envOf1, envOf2, envOf3, envOf4, envOf5, T1, T3, T5, T9, T30, T38, T65, T66, cv8_i Try.underlying5 Try.underlying3]), by (try simp only [List.map_cons, List.map_nil, RH, Nat.reduceAdd, Nat.reduceEqDiff, reduceIte, ev_tmp, ev_const, lit_iv, lit_w8, lit_w32, lit_w64, envOf0, envOf1, envOf2, envOf3, envOf4, envOf5, T1, T3, T5, T9, T30, T38, T65, T66, cv8_i Try.underlying5 Try.underlying3]), by (try simp only [List.map_cons, List.map_nil, RH, Nat.reduceAdd, Nat.reduceEqDiff, reduceIte, ev_tmp, ev_const, lit_iv, lit_w8, lit_w32, lit_w64, envOf0, envOf1, envOf2, envOf3, envOf4, envOf5, T1, T3, T5, T9, T30, T38, T65, T66, cv8_i Try.underlying5 Try.underlying3]), by (try simp only [List.map_cons, List.map_nil, RH, Nat.reduceAdd, Nat.reduceEqDiff, reduceIte, ev_tmp, ev_const, lit_iv, lit_w8, lit_w32, lit_w64, envOf0, envOf1, envOf2, envOf3, envOf4, envOf5, T1, T3, T5, T9, T30, T38, T65, T66, cv8_i Try.underlying5 Try.underlying3]), rfl⟩
  · intro hlt
    repeat (first
      | refine R_seq ?_ | refine R_region ?_ | refine R_nil ?_ | refine Q_seq ?_ | refine Q_norm ?_ | refine Q_seqr ?_ | refine Q_seqx ?_ | refine Q_bl ?_ | refine Q_blr ?_ | refine Q_blx ?_ | refine Q_blo rfl ?_ | refine R_block ?_ | refine R_skip ?_ | refine R_exit ?_ | refine R_ret ?_ | refine I_true ?_ | refine I_false ?_ | refine N_exit ?_ | refine N_ret ?_
      | (refine R_draw (by kernel_rfl) ?_)
      | ((first | apply R_op | apply R_op0)
         · (first | (simp (maxDischargeDepth := 9) only [RA, Nat.reduceEqDiff, Nat.reduceLT, Nat.reduceLeDiff, Nat.reduceAdd, Nat.reduceSub, Nat.reduceMul, Nat.reduceDiv, Nat.reduceMod, Nat.reducePow, Nat.reduceBEq, Nat.reduceGT, reduceIte, T1, T3, T5, T9, T30, T38, T65, T66, cv8_i Try.underlying5 Try.underlying3] <;> rfl) | ((repeat (first | (simp (maxDischargeDepth := 9) only [RA, Nat.reduceEqDiff, Nat.reduceLT, Nat.reduceLeDiff, Nat.reduceAdd, Nat.reduceSub, Nat.reduceMul, Nat.reduceDiv, Nat.reduceMod, Nat.reducePow, Nat.reduceBEq, Nat.reduceGT, reduceIte, T1, T3, T5, T9, T30, T38, T65, T66, cv8_i Try.underlying5 Try.underlying3]; done) | simp (maxDischargeDepth := 9) only [RA, Nat.reduceEqDiff, Nat.reduceLT, Nat.reduceLeDiff, Nat.reduceAdd, Nat.reduceSub, Nat.reduceMul, Nat.reduceDiv, Nat.reduceMod, Nat.reducePow, Nat.reduceBEq, Nat.reduceGT, reduceIte, T1, T3, T5, T9, T30, T38, T65, T66, cv8_i Try.underlying5 Try.underlying3] | simp (disch := first | assumption | omega) only [RV, T1, T3, T5, T9, T30, T38, T65, T66, cv8_i Try.underlying5 Try.underlying3])) <;> rfl)))
      | (apply R_cond
         · (simp only [RE, Nat.reduceEqDiff, Nat.reduceLT, Nat.reduceLeDiff, Nat.reduceBEq, reduceIte, T1, T3, T5, T9, T30, T38, T65, T66, cv8_i Try.underlying5 Try.underlying3] <;> rfl))
      | (apply R_grd
         · (simp only [yieldedA, RY, Nat.reduceEqDiff, reduceIte, T1, T3, T5, T9, T30, T38, T65, T66, cv8_i Try.underlying5 Try.underlying3] <;> rfl)))
    exact ⟨rfl, x.toNat, y.toNat, by omega, by omega, by (try simp only [List.map_cons, List.map_nil, RH, Nat.reduceAdd, Nat.reduceEqDiff, reduceIte, ev_tmp, ev_const, lit_iv, lit_w8, lit_w32, lit_w64, envOf0, envOf1, envOf2, envOf3, envOf4, envOf5, T1, T3, T5, T9, T30, T38, T65, T66, cv8_i Try.underlying5 Try.underlying3]), by (try simp only [List.map_cons, List.map_nil, RH, Nat.reduceAdd, Nat.reduceEqDiff, reduceIte, ev_tmp, ev_const, lit_iv, lit_w8, lit_w32, lit_w64, envOf0, envOf1, envOf2, envOf3, envOf4, envOf5, T1, T3, T5, T9, T30, T38, T65, T66, cv8_i Try.underlying5 Try.underlying3]), by (try simp only [List.map_cons, List.map_nil, RH, Nat.reduceAdd, Nat.reduceEqDiff, reduceIte, ev_tmp, ev_const, lit_iv, lit_w8, lit_w32, lit_w64, envOf0, envOf1, envOf2, envOf3, envOf4, envOf5, T1, T3, T5, T9, T30, T38, T65, T66, cv8_i Try.underlying5 Try.underlying3]), by (try simp only [List.map_cons, List.map_nil, RH, Nat.reduceAdd, Nat.reduceEqDiff, reduceIte, ev_tmp, ev_const, lit_iv, lit_w8, lit_w32, lit_w64, envOf0, envOf1, envOf2, envOf3, envOf4, envOf5, T1, T3, T5, T9, T30, T38, T65, T66, cv8_i Try.underlying5 Try.underlying3]), rfl⟩
  intro e3 h3 ⟨m, M, hmM, hM, j7, j8, j1, j3, hh⟩
  subst hh
  repeat (first
    | refine R_seq ?_ | refine R_region ?_ | refine R_nil ?_ | refine Q_seq ?_ | refine Q_norm ?_ | refine Q_seqr ?_ | refine Q_seqx ?_ | refine Q_bl ?_ | refine Q_blr ?_ | refine Q_blx ?_ | refine Q_blo rfl ?_ | refine R_block ?_ | refine R_skip ?_ | refine R_exit ?_ | refine R_ret ?_ | refine I_true ?_ | refine I_false ?_ | refine N_exit ?_ | refine N_ret ?_
    | ((first | apply R_op | apply R_op0)
       · (first | (simp (maxDischargeDepth := 9) only [RA, Nat.reduceEqDiff, Nat.reduceLT, Nat.reduceLeDiff, Nat.reduceAdd, Nat.reduceSub, Nat.reduceMul, Nat.reduceDiv, Nat.reduceMod, Nat.reducePow, Nat.reduceBEq, Nat.reduceGT, reduceIte, j7, j8, j1, j3, o0, hck, T1, T3, T5, T9, T30, T38, T65, T66, cv8_i Try.underlying5 Try.underlying3] <;> rfl) | ((repeat (first | (simp (maxDischargeDepth := 9) only [RA, Nat.reduceEqDiff, Nat.reduceLT, Nat.reduceLeDiff, Nat.reduceAdd, Nat.reduceSub, Nat.reduceMul, Nat.reduceDiv, Nat.reduceMod, Nat.reducePow, Nat.reduceBEq, Nat.reduceGT, reduceIte, j7, j8, j1, j3, o0, hck, T1, T3, T5, T9, T30, T38, T65, T66, cv8_i Try.underlying5 Try.underlying3]; done) | simp (maxDischargeDepth := 9) only [RA, Nat.reduceEqDiff, Nat.reduceLT, Nat.reduceLeDiff, Nat.reduceAdd, Nat.reduceSub, Nat.reduceMul, Nat.reduceDiv, Nat.reduceMod, Nat.reducePow, Nat.reduceBEq, Nat.reduceGT, reduceIte, j7, j8, j1, j3, o0, hck, T1, T3, T5, T9, T30, T38, T65, T66, cv8_i Try.underlying5 Try.underlying3] | simp (disch := first | assumption | omega) only [RV, j7, j8, j1, j3, o0, hck, T1, T3, T5, T9, T30, T38, T65, T66, cv8_i Try.underlying5 Try.underlying3])) <;> rfl)))
    | (apply R_cond
       · (simp only [RE, Nat.reduceEqDiff, Nat.reduceLT, Nat.reduceLeDiff, Nat.reduceBEq, reduceIte, j7, j8, j1, j3, o0, hck, T1, T3, T5, T9, T30, T38, T65, T66, cv8_i Try.underlying5 Try.underlying3] <;> rfl))
    | (apply R_grd
       · (simp only [yieldedA, RY, Nat.reduceEqDiff, reduceIte, j7, j8, j1, j3, o0, hck, T1, T3, T5, T9, T30, T38, T65, T66, cv8_i Try.underlying5 Try.underlying3] <;> rfl)))
  refine R_fn ?_ (exp72 1 h3 key v2 b m hk b2 (by omega) (by omega)) ?_
  · rfl
  intro v4 h4 ⟨⟨u4, hv4, b4⟩, F4⟩
  subst hv4
  have o4 := F4.2 h.nx n0
  rw [o0] at o4
  repeat (first
    | refine R_seq ?_ | refine R_region ?_ | refine R_nil ?_ | refine Q_seq ?_ | refine Q_norm ?_ | refine Q_seqr ?_ | refine Q_seqx ?_ | refine Q_bl ?_ | refine Q_blr ?_ | refine Q_blx ?_ | refine Q_blo rfl ?_ | refine R_block ?_ | refine R_skip ?_ | refine R_exit ?_ | refine R_ret ?_ | refine I_true ?_ | refine I_false ?_ | refine N_exit ?_ | refine N_ret ?_
    | ((first | apply R_op | apply R_op0)
       · (first | (simp (maxDischargeDepth := 9) only [RA, Nat.reduceEqDiff, Nat.reduceLT, Nat.reduceLeDiff, Nat.reduceAdd, Nat.reduceSub, Nat.reduceMul, Nat.reduceDiv, Nat.reduceMod, Nat.reducePow, Nat.reduceBEq, Nat.reduceGT, reduceIte, j7, j8, j1, j3, o4, hck, T1, T3, T5, T9, T30, T38, T65, T66, cv8_i Try.underlying5 Try.underlying3] <;> rfl) | ((repeat (first | (simp (maxDischargeDepth := 9) only [RA, Nat.reduceEqDiff, Nat.reduceLT, Nat.reduceLeDiff, Nat.reduceAdd, Nat.reduceSub, Nat.reduceMul, Nat.reduceDiv, Nat.reduceMod, Nat.reducePow, Nat.reduceBEq, Nat.reduceGT, reduceIte, j7, j8, j1, j3, o4, hck, T1, T3, T5, T9, T30, T38, T65, T66, cv8_i Try.underlying5 Try.underlying3]; done) | simp (maxDischargeDepth := 9) only [RA, Nat.reduceEqDiff, Nat.reduceLT, Nat.reduceLeDiff, Nat.reduceAdd, Nat.reduceSub, Nat.reduceMul, Nat.reduceDiv, Nat.reduceMod, Nat.reducePow, Nat.reduceBEq, Nat.reduceGT, reduceIte, j7, j8, j1, j3, o4, hck, T1, T3, T5, T9, T30, T38, T65, T66, cv8_i Try.underlying5 Try.underlying3] | simp (disch := first | assumption | omega) only [RV, j7, j8, j1, j3, o4, hck, T1, T3, T5, T9, T30, T38, T65, T66, cv8_i Try.underlying5 Try.underlying3])) <;> rfl)))
    | (apply R_cond
       · (simp only [RE, Nat.reduceEqDiff, Nat.reduceLT, Nat.reduceLeDiff, Nat.reduceBEq, reduceIte, j7, j8, j1, j3, o4, hck, T1, T3, T5, T9, T30, T38, T65, T66, cv8_i Try.underlying5 Try.underlying3] <;> rfl))
    | (apply R_grd
       · (simp only [yieldedA, RY, Nat.reduceEqDiff, reduceIte, j7, j8, j1, j3, o4, hck, T1, T3, T5, T9, T30, T38, T65, T66, cv8_i Try.underlying5 Try.underlying3] <;> rfl)))
  refine R_fn ?_ (exp72 1 h4 key v2 b M hk (b2.fr0 F4) (by omega) (by omega)) ?_
  · rfl
  intro v5 h5 ⟨⟨u5, hv5, b5⟩, F5⟩
  subst hv5
  have b45 : By h5 u4 _ := b4.fr0 F5
  have l4 := S38len b45
  have l5 := S38len b5
  rw [expS_length] at l4 l5
  have sh := S38h (hh := m) b5 fr_refl (by rw [expS_length]; omega)
  have bs := b5.subh (mx := none) (hh := m) (by rw [expS_length]; omega) (fun m hm => nomatch hm)
  rw [expS_take key b hmM] at bs
  repeat (first
    | refine R_seq ?_ | refine R_region ?_ | refine R_nil ?_ | refine Q_seq ?_ | refine Q_norm ?_ | refine Q_seqr ?_ | refine Q_seqx ?_ | refine Q_bl ?_ | refine Q_blr ?_ | refine Q_blx ?_ | refine Q_blo rfl ?_ | refine R_block ?_ | refine R_skip ?_ | refine R_exit ?_ | refine R_ret ?_ | refine I_true ?_ | refine I_false ?_ | refine N_exit ?_ | refine N_ret ?_
    | (refine R_draw (by kernel_rfl) ?_)
    | ((first | apply R_op | apply R_op0)
       · (first | (simp (maxDischargeDepth := 9) only [RA, Nat.reduceEqDiff, Nat.reduceLT, Nat.reduceLeDiff, Nat.reduceAdd, Nat.reduceSub, Nat.reduceMul, Nat.reduceDiv, Nat.reduceMod, Nat.reducePow, Nat.reduceBEq, Nat.reduceGT, reduceIte, j7, j8, live70 0, l4, l5, sh, S38str bs, S38str b45, RF, str_eql, T1, T3, T5, T9, T30, T38, T65, T66, cv8_i Try.underlying5 Try.underlying3] <;> rfl) | ((repeat (first | (simp (maxDischargeDepth := 9) only [RA, Nat.reduceEqDiff, Nat.reduceLT, Nat.reduceLeDiff, Nat.reduceAdd, Nat.reduceSub, Nat.reduceMul, Nat.reduceDiv, Nat.reduceMod, Nat.reducePow, Nat.reduceBEq, Nat.reduceGT, reduceIte, j7, j8, live70 0, l4, l5, sh, S38str bs, S38str b45, RF, str_eql, T1, T3, T5, T9, T30, T38, T65, T66, cv8_i Try.underlying5 Try.underlying3]; done) | simp (maxDischargeDepth := 9) only [RA, Nat.reduceEqDiff, Nat.reduceLT, Nat.reduceLeDiff, Nat.reduceAdd, Nat.reduceSub, Nat.reduceMul, Nat.reduceDiv, Nat.reduceMod, Nat.reducePow, Nat.reduceBEq, Nat.reduceGT, reduceIte, j7, j8, live70 0, l4, l5, sh, S38str bs, S38str b45, RF, str_eql, T1, T3, T5, T9, T30, T38, T65, T66, cv8_i Try.underlying5 Try.underlying3] | simp (disch := first | assumption | omega) only [RV, j7, j8, live70 0, l4, l5, sh, S38str bs, S38str b45, RF, str_eql, T1, T3, T5, T9, T30, T38, T65, T66, cv8_i Try.underlying5 Try.underlying3])) <;> rfl)))
    | (apply R_cond
       · (simp only [RE, Nat.reduceEqDiff, Nat.reduceLT, Nat.reduceLeDiff, Nat.reduceBEq, reduceIte, j7, j8, live70 0, l4, l5, sh, S38str bs, S38str b45, RF, str_eql, T1, T3, T5, T9, T30, T38, T65, T66, cv8_i Try.underlying5 Try.underlying3] <;> rfl))
    | (apply R_grd
       · (simp only [yieldedA, RY, Nat.reduceEqDiff, reduceIte, j7, j8, live70 0, l4, l5, sh, S38str bs, S38str b45, RF, str_eql, T1, T3, T5, T9, T30, T38, T65, T66, cv8_i Try.underlying5 Try.underlying3] <;> rfl)))
  (first | refine ⟨.inr rfl, _, rfl, ?_⟩ | refine ⟨.inl rfl, _, rfl, ?_⟩) <;> simp only [packR, upd_apply, Nat.reduceEqDiff, if_true, if_false, reduceIte]
theorem tyv3 {h : Heap} {v : Value} (s : TyV Try.prog 8 h 3 v) : (∃ n, n < 9223372036854775808 ∧ v = iv n) ∨ ∃ n, 0 < n ∧ v = nv n := by
  obtain ⟨n, e, h1, h2⟩ := ty_int (d := 7) Try.underlying3 (tyv_one Try.underlying3 rfl s)
  cases e
  by_cases h0 : 0 ≤ n
  · exact .inl ⟨n.toNat, by omega, by unfold iv; rw [Int.toNat_of_nonneg h0]⟩
  · exact .inr ⟨(-n).toNat, by omega, by unfold nv; rw [Int.toNat_of_nonneg (by omega), Int.neg_neg]⟩
theorem tyv65 {h : Heap} {v : Value} (s : TyV Try.prog 8 h 65 v) : ∃ x y, v = .agg ⟨[w8 x, w8 y]⟩ := by
  obtain ⟨cs, rfl, s'⟩ := tyv_agg Try.underlying65 rfl s
  obtain ⟨xs, hl, rfl⟩ := ty_arr8 (d := 6) Try.underlying65 Try.underlying5 cells5 (by kernel_rfl) s'
  match xs, hl with
  | [a, b], _ => exact ⟨a, b, rfl⟩
theorem wl25 (h : Heap) (avs : List Value) (ty : TyVs Try.prog 8 h [38, 38] avs) : ∃ v h', evF (cfg0 Try.prog) 12 25 avs h = some (.ok v, h') ∧ v = .bool true := by
  match avs, ty with
  | [v, w], ⟨s0, s1, _⟩ =>
    obtain ⟨xs, hb, _⟩ := tyv38 s0
    obtain ⟨ys, hc, _⟩ := tyv38 s1; exact law25 h v w xs ys hb hc
theorem wl28 (h : Heap) (avs : List Value) (ty : TyVs Try.prog 8 h [38, 38] avs) : ∃ v h', evF (cfg0 Try.prog) 12 28 avs h = some (.ok v, h') ∧ v = .bool true := by
  match avs, ty with
  | [v, w], ⟨s0, s1, _⟩ =>
    obtain ⟨xs, hb, hxl⟩ := tyv38 s0
    obtain ⟨ys, hc, hyl⟩ := tyv38 s1; exact law28 h v w xs ys hb hc (by unfold maxLen at hxl; omega) (by unfold maxLen at hyl; omega)
theorem wl26 (h : Heap) (avs : List Value) (ty : TyVs Try.prog 8 h [30, 38, 65] avs) : ∃ v h', evF (cfg0 Try.prog) 12 26 avs h = some (.ok v, h') ∧ v = .bool true := by
  match avs, ty with
  | [u, v, w], ⟨s0, s1, s2, _⟩ =>
    obtain ⟨k, hk, rfl⟩ := tyv30 s0
    obtain ⟨ys, hc, _⟩ := tyv38 s1
    obtain ⟨x, y, rfl⟩ := tyv65 s2
    exact law26 h k hk v ys hc x y
theorem wl30 (h : Heap) (avs : List Value) (ty : TyVs Try.prog 8 h [30, 3] avs) : ∃ v h', evF (cfg0 Try.prog) 12 30 avs h = some (.ok v, h') ∧ v = .bool true := by
  match avs, ty with
  | [u, z], ⟨s0, s1, _⟩ =>
    obtain ⟨k, hk, rfl⟩ := tyv30 s0
    exact law30 h k hk z (tyv3 s1)
end Go.Proofs.Ytfehhihllenjiaa
