/- Sealed bytes: the document's answers. -/
import Derived.Test.YtfehhihllenjiaaOa
set_option linter.all false
namespace Go.Proofs.Ytfehhihllenjiaa
open Go.Proofs
attribute [local irreducible] evOps iter evD evF evC evLoad evStore evAlloc evIndexAddr evIndex evLenB evBox evBin evUn evConvert evExtract evSlice evAppend evCopy evNil evBuild evMakeSlice evBuildSlice evBuiltin Program.underlying
attribute [local irreducible] leB padZ framedS block xorS polyT oneT tagS sealS ask5L lk1 ln2 lText frB cpy
set_option maxRecDepth 20000 in
set_option maxHeartbeats 8000000 in
theorem law33 (h : Heap) (k n' : List (BitVec 8)) (hk : k.length = 32) (hn : n'.length = 12) (v w : Value) (a b : List (BitVec 8)) (ha : By h v a) (hb : By h w b) : ∃ v1 h1, evF (cfg0 Try.prog) 14 33 [.agg ⟨ask5L k n' v⟩, w] h = some (.ok v1, h1) ∧ v1 = .bool true := by
  rw [evF_eq Try.func33 rfl]
  apply evEnd_of_W
  simp only [Try.f33]
  obtain ⟨H, hH⟩ : ∃ H, H = newRowH h .rw 1 (ask5L k n' v) := ⟨_, rfl⟩
  have hbx := ask5_box (k := k) (n := n') (h := h) (sl_one ha)
  rw [← hH] at hbx
  have o0 : H.obj h.nx = some (.row .rw 1 (ask5L k n' v)) := by rw [hH]; simp only [RH]
  have nH : H.nx = h.nx + 1 := by rw [hH]; simp only [RH]
  have FH : Fr h.nx h H := by rw [hH]; (repeat (first | assumption | exact Fr.refl _ _ | refine Fr.new ?_ ?_ _ _ _ | refine Fr.put ?_ ?_ _ | omega | (simp only [RH]; omega)))
  clear hH
  obtain ⟨v2, e2, b2, r2⟩ := few77 12 H v a 200 (ha.fr0 FH)
  obtain ⟨w2, e3, b3, r3⟩ := few77 12 H w b 300 (hb.fr0 FH)
  have hal : (a.take 200).length ≤ 200 := by simp; omega
  have hbl : (b.take 300).length ≤ 300 := by simp; omega
  have hrv : ∀ r ∈ rowsOfV v2, r < h.nx := fun r hr => ha.lt r (r2 r hr)
  have hrw : ∀ r ∈ rowsOfV w2, r < h.nx := fun r hr => hb.lt r (r3 r hr)
  generalize a.take 200 = a at b2 hal
  generalize b.take 300 = b at b3 hbl
  obtain ⟨va, vc, hv2⟩ := sl_shape b2
  obtain ⟨wa, wc, hw2⟩ := sl_shape b3
  subst hv2 hw2
  repeat (first
    | refine R_seq ?_ | refine R_region ?_ | refine R_nil ?_ | refine Q_seq ?_ | refine Q_norm ?_ | refine Q_seqr ?_ | refine Q_seqx ?_ | refine Q_bl ?_ | refine Q_blr ?_ | refine Q_blx ?_ | refine Q_blo rfl ?_ | refine R_block ?_ | refine R_skip ?_ | refine R_exit ?_ | refine R_ret ?_ | refine I_true ?_ | refine I_false ?_ | refine N_exit ?_ | refine N_ret ?_
    | ((first | apply R_op | apply R_op0)
       · ((repeat (first | simp (maxDischargeDepth := 9) only [RA, Nat.reduceEqDiff, Nat.reduceLT, Nat.reduceLeDiff, Nat.reduceAdd, Nat.reduceSub, Nat.reduceMul, Nat.reduceDiv, Nat.reduceMod, Nat.reducePow, Nat.reduceBEq, Nat.reduceGT, reduceIte, hbx, o0, ask5_cut0 hk, ask5_cut1 hk hn, ask5_cell hk hn, ask5_put hk hn, e2, e3, T1, T2, T3, T9, T30, T32, T38, T74] | simp (disch := first | assumption | omega) only [RV, hbx, o0, ask5_cut0 hk, ask5_cut1 hk hn, ask5_cell hk hn, ask5_put hk hn, e2, e3])) <;> rfl))
    | (apply R_cond
       · (simp only [RE, Nat.reduceEqDiff, Nat.reduceLT, Nat.reduceLeDiff, Nat.reduceBEq, reduceIte] <;> rfl))
    | (apply R_grd
       · (simp only [yieldedA, RY, Nat.reduceEqDiff, reduceIte] <;> rfl)))
  generalize hv2 : Value.slice va a.length vc = v2 at b2 hrv ⊢
  generalize hw2 : Value.slice wa b.length wc = w2 at b3 hrw ⊢
  obtain ⟨G, hG⟩ : ∃ G, G = H.put h.nx (some (.row .rw 1 (ask5L k n' v2))) := ⟨_, rfl⟩
  rw [← hG]
  have oG : G.obj h.nx = some (.row .rw 1 (ask5L k n' v2)) := by rw [hG]; simp only [RH]
  have nG : G.nx = h.nx + 1 := by rw [hG]; simp only [RH]; exact nH
  have bG2 : By G v2 a := b2.keep (by omega) (fun r hr => by have := hrv r hr; rw [hG, obj_put, if_neg (by omega)])
  have bG3 : By G w2 b := b3.keep (by omega) (fun r hr => by have := hrw r hr; rw [hG, obj_put, if_neg (by omega)])
  clear hG b2 b3
  have hc0 := ask5_cut0 (n := n') (v := v2) (kd := .rw) (es := 1) hk
  have hc1 := ask5_cut1 (v := v2) (kd := .rw) (es := 1) hk hn
  have hc2 := ask5_cell (v := v2) (kd := .rw) (es := 1) hk hn
  clear e2 e3 hv2 hw2
  repeat (first
    | refine R_seq ?_ | refine R_region ?_ | refine R_nil ?_ | refine Q_seq ?_ | refine Q_norm ?_ | refine Q_seqr ?_ | refine Q_seqx ?_ | refine Q_bl ?_ | refine Q_blr ?_ | refine Q_blx ?_ | refine Q_blo rfl ?_ | refine R_block ?_ | refine R_skip ?_ | refine R_exit ?_ | refine R_ret ?_ | refine I_true ?_ | refine I_false ?_ | refine N_exit ?_ | refine N_ret ?_
    | ((first | apply R_op | apply R_op0)
       · ((repeat (first | simp (maxDischargeDepth := 9) only [RA, Nat.reduceEqDiff, Nat.reduceLT, Nat.reduceLeDiff, Nat.reduceAdd, Nat.reduceSub, Nat.reduceMul, Nat.reduceDiv, Nat.reduceMod, Nat.reducePow, Nat.reduceBEq, Nat.reduceGT, reduceIte, bs0_38, T1, T2, T3, T9, T30, T32, T38, T74] | simp (disch := first | assumption | omega) only [RV, bs0_38])) <;> rfl))
    | (apply R_cond
       · (simp only [RE, Nat.reduceEqDiff, Nat.reduceLT, Nat.reduceLeDiff, Nat.reduceBEq, reduceIte] <;> rfl))
    | (apply R_grd
       · (simp only [yieldedA, RY, Nat.reduceEqDiff, reduceIte] <;> rfl)))
  refine R_app E38 Try.underlying38 (v := emptyS) (w := w2) (lo := G.nx) (xs := []) (ys := b) ?_ ?_ .empty bG3 (Nat.le_refl _) (by simp; omega) ?_
  · first | rfl | (first | rw [ev_tmp] | rw [ev_const] | skip) <;> simp only [upd_apply, Nat.reduceEqDiff, if_true, if_false, reduceIte, lit_iv, lit_w8]
  · first | rfl | (first | rw [ev_tmp] | rw [ev_const] | skip) <;> simp only [upd_apply, Nat.reduceEqDiff, if_true, if_false, reduceIte, lit_iv, lit_w8]
  intro v3 h3 own3 wt3
  rw [List.nil_append] at own3
  have n3 := wt3.nx
  have F3 : Fr G.nx G h3 := wt3.fr (Nat.le_refl _) (fun r hr => by simp [rowsOfV, emptyS] at hr)
  have o3 := F3.2 h.nx (by omega)
  rw [oG] at o3
  have b23 := bG2.fr0 F3
  have b33 := bG3.fr0 F3
  repeat (first
    | refine R_seq ?_ | refine R_region ?_ | refine R_nil ?_ | refine Q_seq ?_ | refine Q_norm ?_ | refine Q_seqr ?_ | refine Q_seqx ?_ | refine Q_bl ?_ | refine Q_blr ?_ | refine Q_blx ?_ | refine Q_blo rfl ?_ | refine R_block ?_ | refine R_skip ?_ | refine R_exit ?_ | refine R_ret ?_ | refine I_true ?_ | refine I_false ?_ | refine N_exit ?_ | refine N_ret ?_
    | ((first | apply R_op | apply R_op0)
       · ((repeat (first | simp (maxDischargeDepth := 9) only [RA, Nat.reduceEqDiff, Nat.reduceLT, Nat.reduceLeDiff, Nat.reduceAdd, Nat.reduceSub, Nat.reduceMul, Nat.reduceDiv, Nat.reduceMod, Nat.reducePow, Nat.reduceBEq, Nat.reduceGT, reduceIte, T1, T2, T3, T9, T30, T32, T38, T74] | simp (disch := first | assumption | omega) only [RV])) <;> rfl))
    | (apply R_cond
       · (simp only [RE, Nat.reduceEqDiff, Nat.reduceLT, Nat.reduceLeDiff, Nat.reduceBEq, reduceIte] <;> rfl))
    | (apply R_grd
       · (simp only [yieldedA, RY, Nat.reduceEqDiff, reduceIte] <;> rfl)))
  refine D_draw [0, 3, 5, 7, 9, 10, 12, 14, 16, 18, 19, 24, 26] (fun _ => True) (by kernel_rfl) ?_
  repeat (first
    | refine D_nil ?_ | refine I_true ?_ | refine I_false ?_
    | ((first | apply D_op | apply D_op0)
       · ((repeat (first | simp (maxDischargeDepth := 9) only [RA, Nat.reduceEqDiff, Nat.reduceLT, Nat.reduceLeDiff, Nat.reduceAdd, Nat.reduceSub, Nat.reduceMul, Nat.reduceDiv, Nat.reduceMod, Nat.reducePow, Nat.reduceBEq, Nat.reduceGT, reduceIte, live78 1, o3, hc0, hc1, hc2, T1, T2, T3, T9, T30, T32, T38, T74] | simp (disch := first | assumption | omega) only [RV, live78 1, o3, hc0, hc1, hc2])) <;> rfl)
       · (intro hF; first | exact chk_pure rfl | exact chk_alloc rfl | exact chk_read rfl | exact chk_iso iso77 | exact chk_call iso77 (fun _ _ _ => rfl) | exact chk_iso iso78 | exact chk_call iso78 (fun _ _ _ => rfl) | exact chk_iso iso79 | exact chk_call iso79 (fun _ _ _ => rfl) | exact chk_iso iso80 | exact chk_call iso80 (fun _ _ _ => rfl) | (exfalso; revert hF; decide) | ((first | refine chk_load ?_ | refine chk_slice ?_ | refine chk_convert ?_ | refine chk_store ?_ | refine chk_call (by kernel_rfl) ?_); simp only [eq_self, ev_tmp, upd_apply, rowsOfV, List.mem_cons, List.not_mem_nil, or_false, forall_eq, forall_eq_or_imp, obj_put, obj_new, nx_new, nx_put, Nat.reduceEqDiff, if_true, if_false, reduceIte, implies_true, and_self, and_true, true_or, or_true, live78 1, o3, hc0, hc1, hc2, T1, T2, T3, T9, T30, T32, T38, T74])))
    | (apply D_grd
       · (simp only [yieldedA, RY, Nat.reduceEqDiff, reduceIte] <;> rfl)))
  refine D_fn ?_ (seal79 3 h3 k n' hk hn v2 v3 a b b23 own3.sl (by omega) (by omega)) iso79 (fun v4 h4 hp _ r _ hr => hp.2.2 r hr) ?_
  · rfl
  intro v4 h4 ⟨own4, F4⟩
  have n4 := F4.1
  have o4 := F4.2 h.nx (by omega)
  rw [o3] at o4
  repeat (first
    | refine D_nil ?_ | refine I_true ?_ | refine I_false ?_
    | ((first | apply D_op | apply D_op0)
       · ((repeat (first | simp (maxDischargeDepth := 9) only [RA, Nat.reduceEqDiff, Nat.reduceLT, Nat.reduceLeDiff, Nat.reduceAdd, Nat.reduceSub, Nat.reduceMul, Nat.reduceDiv, Nat.reduceMod, Nat.reducePow, Nat.reduceBEq, Nat.reduceGT, reduceIte, o4, hc0, hc1, hc2, S38str own4.sl, fr_refl, T1, T2, T3, T9, T30, T32, T38, T74] | simp (disch := first | assumption | omega) only [RV, o4, hc0, hc1, hc2, S38str own4.sl, fr_refl])) <;> rfl)
       · (intro hF; first | exact chk_pure rfl | exact chk_alloc rfl | exact chk_read rfl | exact chk_iso iso77 | exact chk_call iso77 (fun _ _ _ => rfl) | exact chk_iso iso78 | exact chk_call iso78 (fun _ _ _ => rfl) | exact chk_iso iso79 | exact chk_call iso79 (fun _ _ _ => rfl) | exact chk_iso iso80 | exact chk_call iso80 (fun _ _ _ => rfl) | (exfalso; revert hF; decide) | ((first | refine chk_load ?_ | refine chk_slice ?_ | refine chk_convert ?_ | refine chk_store ?_ | refine chk_call (by kernel_rfl) ?_); simp only [eq_self, ev_tmp, upd_apply, rowsOfV, List.mem_cons, List.not_mem_nil, or_false, forall_eq, forall_eq_or_imp, obj_put, obj_new, nx_new, nx_put, Nat.reduceEqDiff, if_true, if_false, reduceIte, implies_true, and_self, and_true, true_or, or_true, o4, hc0, hc1, hc2, S38str own4.sl, fr_refl, T1, T2, T3, T9, T30, T32, T38, T74])))
    | (apply D_grd
       · (simp only [yieldedA, RY, Nat.reduceEqDiff, reduceIte] <;> rfl)))
  refine D_fn ?_ (seal80 2 h4 k n' hk hn v2 w2 a b (b23.fr0 F4) (b33.fr0 F4) (by omega) (by omega)) iso80 (fun v4 h4 hp _ r _ hr => hp.2.2 r hr) ?_
  · rfl
  intro v5 h5 ⟨own5, F5⟩
  have b35 := (own3.sl.fr0 F4).fr0 F5
  have b25 := (b33.fr0 F4).fr0 F5
  repeat (first
    | refine D_nil ?_ | refine I_true ?_ | refine I_false ?_
    | ((first | apply D_op | apply D_op0)
       · ((repeat (first | simp (maxDischargeDepth := 9) only [RA, Nat.reduceEqDiff, Nat.reduceLT, Nat.reduceLeDiff, Nat.reduceAdd, Nat.reduceSub, Nat.reduceMul, Nat.reduceDiv, Nat.reduceMod, Nat.reducePow, Nat.reduceBEq, Nat.reduceGT, reduceIte, S38str own5.sl, S38str b35, S38str b25, fr_refl, str_eql, T1, T2, T3, T9, T30, T32, T38, T74] | simp (disch := first | assumption | omega) only [RV, S38str own5.sl, S38str b35, S38str b25, fr_refl, str_eql])) <;> rfl)
       · (intro hF; first | exact chk_pure rfl | exact chk_alloc rfl | exact chk_read rfl | exact chk_iso iso77 | exact chk_call iso77 (fun _ _ _ => rfl) | exact chk_iso iso78 | exact chk_call iso78 (fun _ _ _ => rfl) | exact chk_iso iso79 | exact chk_call iso79 (fun _ _ _ => rfl) | exact chk_iso iso80 | exact chk_call iso80 (fun _ _ _ => rfl) | (exfalso; revert hF; decide) | ((first | refine chk_load ?_ | refine chk_slice ?_ | refine chk_convert ?_ | refine chk_store ?_ | refine chk_call (by kernel_rfl) ?_); simp only [eq_self, ev_tmp, upd_apply, rowsOfV, List.mem_cons, List.not_mem_nil, or_false, forall_eq, forall_eq_or_imp, obj_put, obj_new, nx_new, nx_put, Nat.reduceEqDiff, if_true, if_false, reduceIte, implies_true, and_self, and_true, true_or, or_true, S38str own5.sl, S38str b35, S38str b25, fr_refl, str_eql, T1, T2, T3, T9, T30, T32, T38, T74])))
    | (apply D_grd
       · (simp only [yieldedA, RY, Nat.reduceEqDiff, reduceIte] <;> rfl)))
  repeat (first
    | refine R_seq ?_ | refine R_region ?_ | refine R_nil ?_ | refine Q_seq ?_ | refine Q_norm ?_ | refine Q_seqr ?_ | refine Q_seqx ?_ | refine Q_bl ?_ | refine Q_blr ?_ | refine Q_blx ?_ | refine Q_blo rfl ?_ | refine R_block ?_ | refine R_skip ?_ | refine R_exit ?_ | refine R_ret ?_ | refine I_true ?_ | refine I_false ?_ | refine N_exit ?_ | refine N_ret ?_
    | ((first | apply R_op | apply R_op0)
       · ((repeat (first | simp (maxDischargeDepth := 9) only [RA, Nat.reduceEqDiff, Nat.reduceLT, Nat.reduceLeDiff, Nat.reduceAdd, Nat.reduceSub, Nat.reduceMul, Nat.reduceDiv, Nat.reduceMod, Nat.reducePow, Nat.reduceBEq, Nat.reduceGT, reduceIte, T1, T2, T3, T9, T30, T32, T38, T74] | simp (disch := first | assumption | omega) only [RV])) <;> rfl))
    | (apply R_cond
       · (simp only [RE, Nat.reduceEqDiff, Nat.reduceLT, Nat.reduceLeDiff, Nat.reduceBEq, reduceIte] <;> rfl))
    | (apply R_grd
       · (simp only [yieldedA, RY, Nat.reduceEqDiff, reduceIte] <;> rfl)))
  (first | refine ⟨.inr rfl, _, rfl, ?_⟩ | refine ⟨.inl rfl, _, rfl, ?_⟩) <;> simp only [packR, upd_apply, Nat.reduceEqDiff, if_true, if_false, reduceIte]
theorem wl33 (h : Heap) (avs : List Value) (ty : TyVs Try.prog 8 h [74, 38] avs) : ∃ v h', evF (cfg0 Try.prog) 14 33 avs h = some (.ok v, h') ∧ v = .bool true := by
  match avs, ty with
  | [u, w], ⟨s0, s1, _⟩ =>
    obtain ⟨k, n, v, xs, hk, hn, rfl, hx⟩ := tyv74 s0
    obtain ⟨ys, hc, _⟩ := tyv38 s1
    exact law33 h k n hk hn v w xs ys hx hc
set_option maxRecDepth 20000 in
set_option maxHeartbeats 8000000 in
theorem law34 (h : Heap) (k n' : List (BitVec 8)) (hk : k.length = 32) (hn : n'.length = 12) (v w : Value) (a b : List (BitVec 8)) (ha : By h v a) (hb : By h w b) : ∃ v1 h1, evF (cfg0 Try.prog) 14 34 [.agg ⟨ask5L k n' v⟩, w] h = some (.ok v1, h1) ∧ v1 = .bool true := by
  rw [evF_eq Try.func34 rfl]
  apply evEnd_of_W
  simp only [Try.f34]
  obtain ⟨H, hH⟩ : ∃ H, H = newRowH h .rw 1 (ask5L k n' v) := ⟨_, rfl⟩
  have hbx := ask5_box (k := k) (n := n') (h := h) (sl_one ha)
  rw [← hH] at hbx
  have o0 : H.obj h.nx = some (.row .rw 1 (ask5L k n' v)) := by rw [hH]; simp only [RH]
  have nH : H.nx = h.nx + 1 := by rw [hH]; simp only [RH]
  have FH : Fr h.nx h H := by rw [hH]; (repeat (first | assumption | exact Fr.refl _ _ | refine Fr.new ?_ ?_ _ _ _ | refine Fr.put ?_ ?_ _ | omega | (simp only [RH]; omega)))
  clear hH
  obtain ⟨v2, e2, b2, r2⟩ := few77 12 H v a 200 (ha.fr0 FH)
  obtain ⟨w2, e3, b3, r3⟩ := few77 12 H w b 300 (hb.fr0 FH)
  have hal : (a.take 200).length ≤ 200 := by simp; omega
  have hbl : (b.take 300).length ≤ 300 := by simp; omega
  have hrv : ∀ r ∈ rowsOfV v2, r < h.nx := fun r hr => ha.lt r (r2 r hr)
  have hrw : ∀ r ∈ rowsOfV w2, r < h.nx := fun r hr => hb.lt r (r3 r hr)
  generalize a.take 200 = a at b2 hal
  generalize b.take 300 = b at b3 hbl
  obtain ⟨va, vc, hv2⟩ := sl_shape b2
  obtain ⟨wa, wc, hw2⟩ := sl_shape b3
  subst hv2 hw2
  repeat (first
    | refine R_seq ?_ | refine R_region ?_ | refine R_nil ?_ | refine Q_seq ?_ | refine Q_norm ?_ | refine Q_seqr ?_ | refine Q_seqx ?_ | refine Q_bl ?_ | refine Q_blr ?_ | refine Q_blx ?_ | refine Q_blo rfl ?_ | refine R_block ?_ | refine R_skip ?_ | refine R_exit ?_ | refine R_ret ?_ | refine I_true ?_ | refine I_false ?_ | refine N_exit ?_ | refine N_ret ?_
    | ((first | apply R_op | apply R_op0)
       · ((repeat (first | simp (maxDischargeDepth := 9) only [RA, Nat.reduceEqDiff, Nat.reduceLT, Nat.reduceLeDiff, Nat.reduceAdd, Nat.reduceSub, Nat.reduceMul, Nat.reduceDiv, Nat.reduceMod, Nat.reducePow, Nat.reduceBEq, Nat.reduceGT, reduceIte, hbx, o0, ask5_cut0 hk, ask5_cut1 hk hn, ask5_cell hk hn, ask5_put hk hn, e2, e3, T1, T2, T3, T9, T30, T32, T38, T66, T74] | simp (disch := first | assumption | omega) only [RV, hbx, o0, ask5_cut0 hk, ask5_cut1 hk hn, ask5_cell hk hn, ask5_put hk hn, e2, e3])) <;> rfl))
    | (apply R_cond
       · (simp only [RE, Nat.reduceEqDiff, Nat.reduceLT, Nat.reduceLeDiff, Nat.reduceBEq, reduceIte] <;> rfl))
    | (apply R_grd
       · (simp only [yieldedA, RY, Nat.reduceEqDiff, reduceIte] <;> rfl)))
  generalize hv2 : Value.slice va a.length vc = v2 at b2 hrv ⊢
  generalize hw2 : Value.slice wa b.length wc = w2 at b3 hrw ⊢
  obtain ⟨G, hG⟩ : ∃ G, G = H.put h.nx (some (.row .rw 1 (ask5L k n' v2))) := ⟨_, rfl⟩
  rw [← hG]
  have oG : G.obj h.nx = some (.row .rw 1 (ask5L k n' v2)) := by rw [hG]; simp only [RH]
  have nG : G.nx = h.nx + 1 := by rw [hG]; simp only [RH]; exact nH
  have bG2 : By G v2 a := b2.keep (by omega) (fun r hr => by have := hrv r hr; rw [hG, obj_put, if_neg (by omega)])
  have bG3 : By G w2 b := b3.keep (by omega) (fun r hr => by have := hrw r hr; rw [hG, obj_put, if_neg (by omega)])
  clear hG b2 b3
  have hc0 := ask5_cut0 (n := n') (v := v2) (kd := .rw) (es := 1) hk
  have hc1 := ask5_cut1 (v := v2) (kd := .rw) (es := 1) hk hn
  have hc2 := ask5_cell (v := v2) (kd := .rw) (es := 1) hk hn
  clear e2 e3 hv2 hw2
  repeat (first
    | refine R_seq ?_ | refine R_region ?_ | refine R_nil ?_ | refine Q_seq ?_ | refine Q_norm ?_ | refine Q_seqr ?_ | refine Q_seqx ?_ | refine Q_bl ?_ | refine Q_blr ?_ | refine Q_blx ?_ | refine Q_blo rfl ?_ | refine R_block ?_ | refine R_skip ?_ | refine R_exit ?_ | refine R_ret ?_ | refine I_true ?_ | refine I_false ?_ | refine N_exit ?_ | refine N_ret ?_
    | ((first | apply R_op | apply R_op0)
       · ((repeat (first | simp (maxDischargeDepth := 9) only [RA, Nat.reduceEqDiff, Nat.reduceLT, Nat.reduceLeDiff, Nat.reduceAdd, Nat.reduceSub, Nat.reduceMul, Nat.reduceDiv, Nat.reduceMod, Nat.reducePow, Nat.reduceBEq, Nat.reduceGT, reduceIte, oG, hc0, hc1, hc2, T1, T2, T3, T9, T30, T32, T38, T66, T74] | simp (disch := first | assumption | omega) only [RV, oG, hc0, hc1, hc2])) <;> rfl))
    | (apply R_cond
       · (simp only [RE, Nat.reduceEqDiff, Nat.reduceLT, Nat.reduceLeDiff, Nat.reduceBEq, reduceIte] <;> rfl))
    | (apply R_grd
       · (simp only [yieldedA, RY, Nat.reduceEqDiff, reduceIte] <;> rfl)))
  by_cases hs : b.length < 16
  · refine R_fn ?_ (open81s 3 G k n' hk hn v2 w2 b bG3 hs) ?_
    · rfl
    intro v3 h3 ⟨hv3, F3⟩
    subst hv3
    have n3 := F3.1
    have o3 := F3.2 h.nx (by omega)
    rw [oG] at o3
    repeat (first
      | refine R_seq ?_ | refine R_region ?_ | refine R_nil ?_ | refine Q_seq ?_ | refine Q_norm ?_ | refine Q_seqr ?_ | refine Q_seqx ?_ | refine Q_bl ?_ | refine Q_blr ?_ | refine Q_blx ?_ | refine Q_blo rfl ?_ | refine R_block ?_ | refine R_skip ?_ | refine R_exit ?_ | refine R_ret ?_ | refine I_true ?_ | refine I_false ?_ | refine N_exit ?_ | refine N_ret ?_
      | ((first | apply R_op | apply R_op0)
         · ((repeat (first | simp (maxDischargeDepth := 9) only [RA, Nat.reduceEqDiff, Nat.reduceLT, Nat.reduceLeDiff, Nat.reduceAdd, Nat.reduceSub, Nat.reduceMul, Nat.reduceDiv, Nat.reduceMod, Nat.reducePow, Nat.reduceBEq, Nat.reduceGT, reduceIte, o3, hc0, hc1, hc2, T1, T2, T3, T9, T30, T32, T38, T66, T74] | simp (disch := first | assumption | omega) only [RV, o3, hc0, hc1, hc2])) <;> rfl))
      | (apply R_cond
         · (simp only [RE, Nat.reduceEqDiff, Nat.reduceLT, Nat.reduceLeDiff, Nat.reduceBEq, reduceIte] <;> rfl))
      | (apply R_grd
         · (simp only [yieldedA, RY, Nat.reduceEqDiff, reduceIte] <;> rfl)))
    refine R_fn ?_ (open82s 3 h3 k n' v2 w2 b (bG3.fr0 F3) hs) ?_
    · rfl
    intro v4 h4 ⟨hv4, F4⟩
    subst hv4
    have bn : By h4 (.slice none 0 0) [] := .nil
    repeat (first
      | refine R_seq ?_ | refine R_region ?_ | refine R_nil ?_ | refine Q_seq ?_ | refine Q_norm ?_ | refine Q_seqr ?_ | refine Q_seqx ?_ | refine Q_bl ?_ | refine Q_blr ?_ | refine Q_blx ?_ | refine Q_blo rfl ?_ | refine R_block ?_ | refine R_skip ?_ | refine R_exit ?_ | refine R_ret ?_ | refine I_true ?_ | refine I_false ?_ | refine N_exit ?_ | refine N_ret ?_
      | ((first | apply R_op | apply R_op0)
         · ((repeat (first | simp (maxDischargeDepth := 9) only [RA, Nat.reduceEqDiff, Nat.reduceLT, Nat.reduceLeDiff, Nat.reduceAdd, Nat.reduceSub, Nat.reduceMul, Nat.reduceDiv, Nat.reduceMod, Nat.reducePow, Nat.reduceBEq, Nat.reduceGT, reduceIte, live78 1, S38str bn, fr_refl, str_eql, T1, T2, T3, T9, T30, T32, T38, T66, T74] | simp (disch := first | assumption | omega) only [RV, live78 1, S38str bn, fr_refl, str_eql])) <;> rfl))
      | (apply R_cond
         · (simp only [RE, Nat.reduceEqDiff, Nat.reduceLT, Nat.reduceLeDiff, Nat.reduceBEq, reduceIte] <;> rfl))
      | (apply R_grd
         · (simp only [yieldedA, RY, Nat.reduceEqDiff, reduceIte] <;> rfl)))
    (first | refine ⟨.inr rfl, _, rfl, ?_⟩ | refine ⟨.inl rfl, _, rfl, ?_⟩) <;> simp only [packR, upd_apply, Nat.reduceEqDiff, if_true, if_false, reduceIte]
  · refine R_fn ?_ (open81 2 G k n' hk hn v2 w2 a b bG2 bG3 (by omega) (by omega) (by omega)) ?_
    · rfl
    intro v3 h3 ⟨hv3, F3⟩
    have n3 := F3.1
    have o3 := F3.2 h.nx (by omega)
    rw [oG] at o3
    by_cases hc : b.drop (b.length - 16) = tagS k n' a (b.take (b.length - 16))
    · rw [if_pos hc] at hv3
      obtain ⟨u, rfl, own3⟩ := hv3
      repeat (first
        | refine R_seq ?_ | refine R_region ?_ | refine R_nil ?_ | refine Q_seq ?_ | refine Q_norm ?_ | refine Q_seqr ?_ | refine Q_seqx ?_ | refine Q_bl ?_ | refine Q_blr ?_ | refine Q_blx ?_ | refine Q_blo rfl ?_ | refine R_block ?_ | refine R_skip ?_ | refine R_exit ?_ | refine R_ret ?_ | refine I_true ?_ | refine I_false ?_ | refine N_exit ?_ | refine N_ret ?_
        | ((first | apply R_op | apply R_op0)
           · ((repeat (first | simp (maxDischargeDepth := 9) only [RA, Nat.reduceEqDiff, Nat.reduceLT, Nat.reduceLeDiff, Nat.reduceAdd, Nat.reduceSub, Nat.reduceMul, Nat.reduceDiv, Nat.reduceMod, Nat.reducePow, Nat.reduceBEq, Nat.reduceGT, reduceIte, o3, hc0, hc1, hc2, T1, T2, T3, T9, T30, T32, T38, T66, T74] | simp (disch := first | assumption | omega) only [RV, o3, hc0, hc1, hc2])) <;> rfl))
        | (apply R_cond
           · (simp only [RE, Nat.reduceEqDiff, Nat.reduceLT, Nat.reduceLeDiff, Nat.reduceBEq, reduceIte] <;> rfl))
        | (apply R_grd
           · (simp only [yieldedA, RY, Nat.reduceEqDiff, reduceIte] <;> rfl)))
      refine R_fn ?_ (open82 2 h3 k n' hk hn v2 w2 a b (bG2.fr0 F3) (bG3.fr0 F3) (by omega) (by omega) (by omega)) ?_
      · rfl
      intro v4 h4 ⟨hv4, F4⟩
      rw [if_pos hc] at hv4
      obtain ⟨u4, rfl, own4⟩ := hv4
      have b34 := own3.sl.fr0 F4
      repeat (first
        | refine R_seq ?_ | refine R_region ?_ | refine R_nil ?_ | refine Q_seq ?_ | refine Q_norm ?_ | refine Q_seqr ?_ | refine Q_seqx ?_ | refine Q_bl ?_ | refine Q_blr ?_ | refine Q_blx ?_ | refine Q_blo rfl ?_ | refine R_block ?_ | refine R_skip ?_ | refine R_exit ?_ | refine R_ret ?_ | refine I_true ?_ | refine I_false ?_ | refine N_exit ?_ | refine N_ret ?_
        | ((first | apply R_op | apply R_op0)
           · ((repeat (first | simp (maxDischargeDepth := 9) only [RA, Nat.reduceEqDiff, Nat.reduceLT, Nat.reduceLeDiff, Nat.reduceAdd, Nat.reduceSub, Nat.reduceMul, Nat.reduceDiv, Nat.reduceMod, Nat.reducePow, Nat.reduceBEq, Nat.reduceGT, reduceIte, live78 1, S38str own4.sl, S38str b34, fr_refl, str_eql, T1, T2, T3, T9, T30, T32, T38, T66, T74] | simp (disch := first | assumption | omega) only [RV, live78 1, S38str own4.sl, S38str b34, fr_refl, str_eql])) <;> rfl))
        | (apply R_cond
           · (simp only [RE, Nat.reduceEqDiff, Nat.reduceLT, Nat.reduceLeDiff, Nat.reduceBEq, reduceIte] <;> rfl))
        | (apply R_grd
           · (simp only [yieldedA, RY, Nat.reduceEqDiff, reduceIte] <;> rfl)))
      (first | refine ⟨.inr rfl, _, rfl, ?_⟩ | refine ⟨.inl rfl, _, rfl, ?_⟩) <;> simp only [packR, upd_apply, Nat.reduceEqDiff, if_true, if_false, reduceIte]
    · rw [if_neg hc] at hv3
      subst hv3
      repeat (first
        | refine R_seq ?_ | refine R_region ?_ | refine R_nil ?_ | refine Q_seq ?_ | refine Q_norm ?_ | refine Q_seqr ?_ | refine Q_seqx ?_ | refine Q_bl ?_ | refine Q_blr ?_ | refine Q_blx ?_ | refine Q_blo rfl ?_ | refine R_block ?_ | refine R_skip ?_ | refine R_exit ?_ | refine R_ret ?_ | refine I_true ?_ | refine I_false ?_ | refine N_exit ?_ | refine N_ret ?_
        | ((first | apply R_op | apply R_op0)
           · ((repeat (first | simp (maxDischargeDepth := 9) only [RA, Nat.reduceEqDiff, Nat.reduceLT, Nat.reduceLeDiff, Nat.reduceAdd, Nat.reduceSub, Nat.reduceMul, Nat.reduceDiv, Nat.reduceMod, Nat.reducePow, Nat.reduceBEq, Nat.reduceGT, reduceIte, o3, hc0, hc1, hc2, T1, T2, T3, T9, T30, T32, T38, T66, T74] | simp (disch := first | assumption | omega) only [RV, o3, hc0, hc1, hc2])) <;> rfl))
        | (apply R_cond
           · (simp only [RE, Nat.reduceEqDiff, Nat.reduceLT, Nat.reduceLeDiff, Nat.reduceBEq, reduceIte] <;> rfl))
        | (apply R_grd
           · (simp only [yieldedA, RY, Nat.reduceEqDiff, reduceIte] <;> rfl)))
      refine R_fn ?_ (open82 2 h3 k n' hk hn v2 w2 a b (bG2.fr0 F3) (bG3.fr0 F3) (by omega) (by omega) (by omega)) ?_
      · rfl
      intro v4 h4 ⟨hv4, F4⟩
      rw [if_neg hc] at hv4
      subst hv4
      have bn : By h4 (.slice none 0 0) [] := .nil
      repeat (first
        | refine R_seq ?_ | refine R_region ?_ | refine R_nil ?_ | refine Q_seq ?_ | refine Q_norm ?_ | refine Q_seqr ?_ | refine Q_seqx ?_ | refine Q_bl ?_ | refine Q_blr ?_ | refine Q_blx ?_ | refine Q_blo rfl ?_ | refine R_block ?_ | refine R_skip ?_ | refine R_exit ?_ | refine R_ret ?_ | refine I_true ?_ | refine I_false ?_ | refine N_exit ?_ | refine N_ret ?_
        | ((first | apply R_op | apply R_op0)
           · ((repeat (first | simp (maxDischargeDepth := 9) only [RA, Nat.reduceEqDiff, Nat.reduceLT, Nat.reduceLeDiff, Nat.reduceAdd, Nat.reduceSub, Nat.reduceMul, Nat.reduceDiv, Nat.reduceMod, Nat.reducePow, Nat.reduceBEq, Nat.reduceGT, reduceIte, live78 1, S38str bn, fr_refl, str_eql, T1, T2, T3, T9, T30, T32, T38, T66, T74] | simp (disch := first | assumption | omega) only [RV, live78 1, S38str bn, fr_refl, str_eql])) <;> rfl))
        | (apply R_cond
           · (simp only [RE, Nat.reduceEqDiff, Nat.reduceLT, Nat.reduceLeDiff, Nat.reduceBEq, reduceIte] <;> rfl))
        | (apply R_grd
           · (simp only [yieldedA, RY, Nat.reduceEqDiff, reduceIte] <;> rfl)))
      (first | refine ⟨.inr rfl, _, rfl, ?_⟩ | refine ⟨.inl rfl, _, rfl, ?_⟩) <;> simp only [packR, upd_apply, Nat.reduceEqDiff, if_true, if_false, reduceIte]
theorem wl34 (h : Heap) (avs : List Value) (ty : TyVs Try.prog 8 h [74, 38] avs) : ∃ v h', evF (cfg0 Try.prog) 14 34 avs h = some (.ok v, h') ∧ v = .bool true := by
  match avs, ty with
  | [u, w], ⟨s0, s1, _⟩ =>
    obtain ⟨k, n, v, xs, hk, hn, rfl, hx⟩ := tyv74 s0
    obtain ⟨ys, hc, _⟩ := tyv38 s1
    exact law34 h k n hk hn v w xs ys hx hc
end Go.Proofs.Ytfehhihllenjiaa
