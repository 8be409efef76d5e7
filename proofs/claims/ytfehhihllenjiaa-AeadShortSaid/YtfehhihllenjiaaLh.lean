/- Sealed bytes: too few, another tag. -/
import Derived.Test.YtfehhihllenjiaaLf
set_option linter.all false
namespace Go.Proofs.Ytfehhihllenjiaa
open Go.Proofs
attribute [local irreducible] evOps iter evD evF evC evLoad evStore evAlloc evIndexAddr evIndex evLenB evBox evBin evUn evConvert evExtract evSlice evAppend evCopy evNil evBuild evMakeSlice evBuildSlice evBuiltin Program.underlying
attribute [local irreducible] leB padZ framedS block xorS polyT oneT tagS sealS ask5L lk1 ln2 lText
set_option maxRecDepth 20000 in
set_option maxHeartbeats 8000000 in
theorem law38 (h : Heap) (k n' : List (BitVec 8)) (hk : k.length = 32) (hn : n'.length = 12) (v w : Value) (a b : List (BitVec 8)) (ha : By h v a) (hb : By h w b) : ∃ v1 h1, evF (cfg0 Try.prog) 14 38 [.agg ⟨ask5L k n' v⟩, w] h = some (.ok v1, h1) ∧ v1 = .bool true := by
  rw [evF_eq Try.func38 rfl]
  apply evEnd_of_W
  simp only [Try.f38]
  obtain ⟨H, hH⟩ : ∃ H, H = newRowH h .rw 1 (ask5L k n' v) := ⟨_, rfl⟩
  have hbx := ask5_box (k := k) (n := n') (h := h) (sl_one ha)
  rw [← hH] at hbx
  have o0 : H.obj h.nx = some (.row .rw 1 (ask5L k n' v)) := by rw [hH]; simp only [RH]
  have nH : H.nx = h.nx + 1 := by rw [hH]; simp only [RH]
  have FH : Fr h.nx h H := by rw [hH]; (repeat (first | assumption | exact Fr.refl _ _ | refine Fr.new ?_ ?_ _ _ _ | refine Fr.put ?_ ?_ _ | omega | (simp only [RH]; omega)))
  clear hH
  obtain ⟨v2, e2, b2, r2⟩ := few77 12 H v a 200 (ha.fr0 FH)
  obtain ⟨w2, e3, b3, r3⟩ := few77 12 H w b 15 (hb.fr0 FH)
  have hal : (a.take 200).length ≤ 200 := by simp; omega
  have hbl : (b.take 15).length ≤ 15 := by simp; omega
  generalize a.take 200 = a at b2 hal
  generalize b.take 15 = b at b3 hbl
  repeat (first
    | refine R_seq ?_ | refine R_region ?_ | refine R_nil ?_ | refine Q_seq ?_ | refine Q_norm ?_ | refine Q_seqr ?_ | refine Q_seqx ?_ | refine Q_bl ?_ | refine Q_blr ?_ | refine Q_blx ?_ | refine Q_blo rfl ?_ | refine R_block ?_ | refine R_skip ?_ | refine R_exit ?_ | refine R_ret ?_ | refine I_true ?_ | refine I_false ?_ | refine N_exit ?_ | refine N_ret ?_
    | ((first | apply R_op | apply R_op0)
       · (first | (simp (maxDischargeDepth := 9) only [RA, Nat.reduceEqDiff, Nat.reduceLT, Nat.reduceLeDiff, Nat.reduceAdd, Nat.reduceSub, Nat.reduceMul, Nat.reduceDiv, Nat.reduceMod, Nat.reducePow, Nat.reduceBEq, Nat.reduceGT, reduceIte, hbx, T1, T2, T3, T30, T32, T38, T66, T74] <;> rfl) | ((repeat (first | (simp (maxDischargeDepth := 9) only [RA, Nat.reduceEqDiff, Nat.reduceLT, Nat.reduceLeDiff, Nat.reduceAdd, Nat.reduceSub, Nat.reduceMul, Nat.reduceDiv, Nat.reduceMod, Nat.reducePow, Nat.reduceBEq, Nat.reduceGT, reduceIte, hbx, T1, T2, T3, T30, T32, T38, T66, T74]; done) | simp (maxDischargeDepth := 9) only [RA, Nat.reduceEqDiff, Nat.reduceLT, Nat.reduceLeDiff, Nat.reduceAdd, Nat.reduceSub, Nat.reduceMul, Nat.reduceDiv, Nat.reduceMod, Nat.reducePow, Nat.reduceBEq, Nat.reduceGT, reduceIte, hbx, T1, T2, T3, T30, T32, T38, T66, T74] | simp (disch := first | assumption | omega) only [RV, hbx, T1, T2, T3, T30, T32, T38, T66, T74])) <;> rfl)))
    | (apply R_cond
       · (simp only [RE, Nat.reduceEqDiff, Nat.reduceLT, Nat.reduceLeDiff, Nat.reduceBEq, reduceIte, hbx, T1, T2, T3, T30, T32, T38, T66, T74] <;> rfl))
    | (apply R_grd
       · (simp only [yieldedA, RY, Nat.reduceEqDiff, reduceIte, hbx, T1, T2, T3, T30, T32, T38, T66, T74] <;> rfl)))
  refine D_draw [1, 3, 5, 6, 8, 9] (fun _ => True) (by kernel_rfl) ?_
  repeat (first
    | refine D_nil ?_ | refine I_true ?_ | refine I_false ?_
    | ((first | apply D_op | apply D_op0)
       · (first | (simp (maxDischargeDepth := 9) only [RA, Nat.reduceEqDiff, Nat.reduceLT, Nat.reduceLeDiff, Nat.reduceAdd, Nat.reduceSub, Nat.reduceMul, Nat.reduceDiv, Nat.reduceMod, Nat.reducePow, Nat.reduceBEq, Nat.reduceGT, reduceIte, o0, ask5_cut0 hk, ask5_cut1 hk hn, ask5_cell hk hn, e2, e3, T1, T2, T3, T30, T32, T38, T66, T74] <;> rfl) | ((repeat (first | (simp (maxDischargeDepth := 9) only [RA, Nat.reduceEqDiff, Nat.reduceLT, Nat.reduceLeDiff, Nat.reduceAdd, Nat.reduceSub, Nat.reduceMul, Nat.reduceDiv, Nat.reduceMod, Nat.reducePow, Nat.reduceBEq, Nat.reduceGT, reduceIte, o0, ask5_cut0 hk, ask5_cut1 hk hn, ask5_cell hk hn, e2, e3, T1, T2, T3, T30, T32, T38, T66, T74]; done) | simp (maxDischargeDepth := 9) only [RA, Nat.reduceEqDiff, Nat.reduceLT, Nat.reduceLeDiff, Nat.reduceAdd, Nat.reduceSub, Nat.reduceMul, Nat.reduceDiv, Nat.reduceMod, Nat.reducePow, Nat.reduceBEq, Nat.reduceGT, reduceIte, o0, ask5_cut0 hk, ask5_cut1 hk hn, ask5_cell hk hn, e2, e3, T1, T2, T3, T30, T32, T38, T66, T74] | simp (disch := first | assumption | omega) only [RV, o0, ask5_cut0 hk, ask5_cut1 hk hn, ask5_cell hk hn, e2, e3, T1, T2, T3, T30, T32, T38, T66, T74])) <;> rfl))
       · (intro hF; first | exact chk_pure rfl | exact chk_alloc rfl | exact chk_read rfl | exact chk_iso iso77 | exact chk_call iso77 (fun _ _ _ => rfl) | exact chk_iso iso78 | exact chk_call iso78 (fun _ _ _ => rfl) | exact chk_iso iso81 | exact chk_call iso81 (fun _ _ _ => rfl) | (exfalso; revert hF; decide) | ((first | refine chk_load ?_ | refine chk_slice ?_ | refine chk_convert ?_ | refine chk_store ?_ | refine chk_call (by kernel_rfl) ?_); simp only [eq_self, ev_tmp, upd_apply, rowsOfV, List.mem_cons, List.not_mem_nil, or_false, forall_eq, forall_eq_or_imp, obj_put, obj_new, nx_new, nx_put, Nat.reduceEqDiff, if_true, if_false, reduceIte, implies_true, and_self, and_true, true_or, or_true, o0, ask5_cut0 hk, ask5_cut1 hk hn, ask5_cell hk hn, e2, e3, T1, T2, T3, T30, T32, T38, T66, T74])))
    | (apply D_grd
       · (simp only [yieldedA, RY, Nat.reduceEqDiff, reduceIte, o0, ask5_cut0 hk, ask5_cut1 hk hn, ask5_cell hk hn, e2, e3, T1, T2, T3, T30, T32, T38, T66, T74] <;> rfl)))
  refine D_fn ?_ (open81s 3 H k n' hk hn v2 w2 b b3 (by omega)) iso81 (fun v4 h4 hp _ r _ hr => hp.2.2 r hr) ?_
  · rfl
  intro v4 h4 ⟨hv4, F4⟩
  subst hv4
  repeat (first
    | refine D_nil ?_ | refine I_true ?_ | refine I_false ?_
    | ((first | apply D_op | apply D_op0)
       · (first | (simp (maxDischargeDepth := 9) only [RA, Nat.reduceEqDiff, Nat.reduceLT, Nat.reduceLeDiff, Nat.reduceAdd, Nat.reduceSub, Nat.reduceMul, Nat.reduceDiv, Nat.reduceMod, Nat.reducePow, Nat.reduceBEq, Nat.reduceGT, reduceIte, T1, T2, T3, T30, T32, T38, T66, T74] <;> rfl) | ((repeat (first | (simp (maxDischargeDepth := 9) only [RA, Nat.reduceEqDiff, Nat.reduceLT, Nat.reduceLeDiff, Nat.reduceAdd, Nat.reduceSub, Nat.reduceMul, Nat.reduceDiv, Nat.reduceMod, Nat.reducePow, Nat.reduceBEq, Nat.reduceGT, reduceIte, T1, T2, T3, T30, T32, T38, T66, T74]; done) | simp (maxDischargeDepth := 9) only [RA, Nat.reduceEqDiff, Nat.reduceLT, Nat.reduceLeDiff, Nat.reduceAdd, Nat.reduceSub, Nat.reduceMul, Nat.reduceDiv, Nat.reduceMod, Nat.reducePow, Nat.reduceBEq, Nat.reduceGT, reduceIte, T1, T2, T3, T30, T32, T38, T66, T74] | simp (disch := first | assumption | omega) only [RV, T1, T2, T3, T30, T32, T38, T66, T74])) <;> rfl))
       · (intro hF; first | exact chk_pure rfl | exact chk_alloc rfl | exact chk_read rfl | exact chk_iso iso77 | exact chk_call iso77 (fun _ _ _ => rfl) | exact chk_iso iso78 | exact chk_call iso78 (fun _ _ _ => rfl) | exact chk_iso iso81 | exact chk_call iso81 (fun _ _ _ => rfl) | (exfalso; revert hF; decide) | ((first | refine chk_load ?_ | refine chk_slice ?_ | refine chk_convert ?_ | refine chk_store ?_ | refine chk_call (by kernel_rfl) ?_); simp only [eq_self, ev_tmp, upd_apply, rowsOfV, List.mem_cons, List.not_mem_nil, or_false, forall_eq, forall_eq_or_imp, obj_put, obj_new, nx_new, nx_put, Nat.reduceEqDiff, if_true, if_false, reduceIte, implies_true, and_self, and_true, true_or, or_true, T1, T2, T3, T30, T32, T38, T66, T74])))
    | (apply D_grd
       · (simp only [yieldedA, RY, Nat.reduceEqDiff, reduceIte, T1, T2, T3, T30, T32, T38, T66, T74] <;> rfl)))
  repeat (first
    | refine R_seq ?_ | refine R_region ?_ | refine R_nil ?_ | refine Q_seq ?_ | refine Q_norm ?_ | refine Q_seqr ?_ | refine Q_seqx ?_ | refine Q_bl ?_ | refine Q_blr ?_ | refine Q_blx ?_ | refine Q_blo rfl ?_ | refine R_block ?_ | refine R_skip ?_ | refine R_exit ?_ | refine R_ret ?_ | refine I_true ?_ | refine I_false ?_ | refine N_exit ?_ | refine N_ret ?_
    | ((first | apply R_op | apply R_op0)
       · (first | (simp (maxDischargeDepth := 9) only [RA, Nat.reduceEqDiff, Nat.reduceLT, Nat.reduceLeDiff, Nat.reduceAdd, Nat.reduceSub, Nat.reduceMul, Nat.reduceDiv, Nat.reduceMod, Nat.reducePow, Nat.reduceBEq, Nat.reduceGT, reduceIte, live78 1, len38, T1, T2, T3, T30, T32, T38, T66, T74] <;> rfl) | ((repeat (first | (simp (maxDischargeDepth := 9) only [RA, Nat.reduceEqDiff, Nat.reduceLT, Nat.reduceLeDiff, Nat.reduceAdd, Nat.reduceSub, Nat.reduceMul, Nat.reduceDiv, Nat.reduceMod, Nat.reducePow, Nat.reduceBEq, Nat.reduceGT, reduceIte, live78 1, len38, T1, T2, T3, T30, T32, T38, T66, T74]; done) | simp (maxDischargeDepth := 9) only [RA, Nat.reduceEqDiff, Nat.reduceLT, Nat.reduceLeDiff, Nat.reduceAdd, Nat.reduceSub, Nat.reduceMul, Nat.reduceDiv, Nat.reduceMod, Nat.reducePow, Nat.reduceBEq, Nat.reduceGT, reduceIte, live78 1, len38, T1, T2, T3, T30, T32, T38, T66, T74] | simp (disch := first | assumption | omega) only [RV, live78 1, len38, T1, T2, T3, T30, T32, T38, T66, T74])) <;> rfl)))
    | (apply R_cond
       · (simp only [RE, Nat.reduceEqDiff, Nat.reduceLT, Nat.reduceLeDiff, Nat.reduceBEq, reduceIte, live78 1, len38, T1, T2, T3, T30, T32, T38, T66, T74] <;> rfl))
    | (apply R_grd
       · (simp only [yieldedA, RY, Nat.reduceEqDiff, reduceIte, live78 1, len38, T1, T2, T3, T30, T32, T38, T66, T74] <;> rfl)))
  (first | refine ⟨.inr rfl, _, rfl, ?_⟩ | refine ⟨.inl rfl, _, rfl, ?_⟩) <;> simp only [packR, upd_apply, Nat.reduceEqDiff, if_true, if_false, reduceIte]
theorem wl38 (h : Heap) (avs : List Value) (ty : TyVs Try.prog 8 h [74, 38] avs) : ∃ v h', evF (cfg0 Try.prog) 14 38 avs h = some (.ok v, h') ∧ v = .bool true := by
  match avs, ty with
  | [u, w], ⟨s0, s1, _⟩ =>
    obtain ⟨k, n, v, xs, hk, hn, rfl, hx⟩ := tyv74 s0
    obtain ⟨ys, hc, _⟩ := tyv38 s1
    exact law38 h k n hk hn v w xs ys hx hc
end Go.Proofs.Ytfehhihllenjiaa
