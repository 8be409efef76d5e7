/- One-time tags: the document's answer. -/
import Derived.Test.YtfehhihllenjiaaNc
set_option linter.all false
namespace Go.Proofs.Ytfehhihllenjiaa
open Go.Proofs
attribute [local irreducible] evOps iter evD evF evC evLoad evStore evAlloc evIndexAddr evIndex evLenB evBox evBin evUn evConvert evExtract evSlice evAppend evCopy evNil evBuild evMakeSlice evBuildSlice evBuiltin Program.underlying
attribute [local irreducible] polyT pkL pbL ptL clampB cpy
set_option maxRecDepth 20000 in
set_option maxHeartbeats 8000000 in
theorem law18 (h : Heap) (k : List (BitVec 8)) (hk : k.length = 32) (w : Value) (b : List (BitVec 8)) (hb : By h w b) : ∃ v1 h1, evF (cfg0 Try.prog) 13 18 [.agg ⟨b8 k⟩, w] h = some (.ok v1, h1) ∧ v1 = .bool true := by
  rw [evF_eq Try.func18 rfl]
  apply evEnd_of_W
  simp only [Try.f18]
  have hck := fun (kd : Kind) (es : Nat) => cut8 (k := kd) (es := es) hk
  obtain ⟨v2, e2, b2, r2⟩ := few61 11 (newRowH h .rw 1 (b8 k)) w b 300 (hb.fr0 (by (repeat (first | assumption | exact Fr.refl _ _ | refine Fr.new ?_ ?_ _ _ _ | refine Fr.put ?_ ?_ _ | omega | (simp only [RH]; omega)))))
  repeat (first
    | refine R_seq ?_ | refine R_region ?_ | refine R_nil ?_ | refine Q_seq ?_ | refine Q_norm ?_ | refine Q_seqr ?_ | refine Q_seqx ?_ | refine Q_bl ?_ | refine Q_blr ?_ | refine Q_blx ?_ | refine Q_blo rfl ?_ | refine R_block ?_ | refine R_skip ?_ | refine R_exit ?_ | refine R_ret ?_ | refine I_true ?_ | refine I_false ?_ | refine N_exit ?_ | refine N_ret ?_
    | ((first | apply R_op | apply R_op0)
       · (first | (simp (maxDischargeDepth := 9) only [RA, Nat.reduceEqDiff, Nat.reduceLT, Nat.reduceLeDiff, Nat.reduceAdd, Nat.reduceSub, Nat.reduceMul, Nat.reduceDiv, Nat.reduceMod, Nat.reducePow, Nat.reduceBEq, Nat.reduceGT, reduceIte, e2, bs0_38, T3, T9, T30, T38, T57] <;> rfl) | ((repeat (first | (simp (maxDischargeDepth := 9) only [RA, Nat.reduceEqDiff, Nat.reduceLT, Nat.reduceLeDiff, Nat.reduceAdd, Nat.reduceSub, Nat.reduceMul, Nat.reduceDiv, Nat.reduceMod, Nat.reducePow, Nat.reduceBEq, Nat.reduceGT, reduceIte, e2, bs0_38, T3, T9, T30, T38, T57]; done) | simp (maxDischargeDepth := 9) only [RA, Nat.reduceEqDiff, Nat.reduceLT, Nat.reduceLeDiff, Nat.reduceAdd, Nat.reduceSub, Nat.reduceMul, Nat.reduceDiv, Nat.reduceMod, Nat.reducePow, Nat.reduceBEq, Nat.reduceGT, reduceIte, e2, bs0_38, T3, T9, T30, T38, T57] | simp (disch := first | assumption | omega) only [RV, e2, bs0_38, T3, T9, T30, T38, T57])) <;> rfl)))
    | (apply R_cond
       · (simp only [RE, Nat.reduceEqDiff, Nat.reduceLT, Nat.reduceLeDiff, Nat.reduceBEq, reduceIte, e2, bs0_38, T3, T9, T30, T38, T57] <;> rfl))
    | (apply R_grd
       · (simp only [yieldedA, RY, Nat.reduceEqDiff, reduceIte, e2, bs0_38, T3, T9, T30, T38, T57] <;> rfl)))
  have hbl : (b.take 300).length ≤ 300 := by simp; omega
  generalize b.take 300 = b at b2 hbl
  obtain ⟨H, hH⟩ : ∃ H, H = newRowH h .rw 1 (b8 k) := ⟨_, rfl⟩
  rw [← hH] at b2 ⊢
  have o0 : H.obj h.nx = some (.row .rw 1 (b8 k)) := by rw [hH]; simp only [RH]
  have nH : H.nx = h.nx + 1 := by rw [hH]; simp only [RH]
  clear hH e2
  refine R_app E38 Try.underlying38 (v := emptyS) (w := v2) (lo := H.nx) (xs := []) (ys := b) ?_ ?_ .empty b2 (Nat.le_refl _) (by simp; omega) ?_
  · first | rfl | (first | rw [ev_tmp] | rw [ev_const] | skip) <;> simp only [upd_apply, Nat.reduceEqDiff, if_true, if_false, reduceIte, lit_iv, lit_w8]
  · first | rfl | (first | rw [ev_tmp] | rw [ev_const] | skip) <;> simp only [upd_apply, Nat.reduceEqDiff, if_true, if_false, reduceIte, lit_iv, lit_w8]
  intro v3 h3 own3 wt3
  rw [List.nil_append] at own3
  have n3 := wt3.nx
  have F3 : Fr H.nx H h3 := wt3.fr (Nat.le_refl _) (fun r hr => by simp [rowsOfV, emptyS] at hr)
  have o3 := F3.2 h.nx (by omega)
  rw [o0] at o3
  have b23 := b2.fr0 F3
  have hT := polyT_length k b
  repeat (first
    | refine R_seq ?_ | refine R_region ?_ | refine R_nil ?_ | refine Q_seq ?_ | refine Q_norm ?_ | refine Q_seqr ?_ | refine Q_seqx ?_ | refine Q_bl ?_ | refine Q_blr ?_ | refine Q_blx ?_ | refine Q_blo rfl ?_ | refine R_block ?_ | refine R_skip ?_ | refine R_exit ?_ | refine R_ret ?_ | refine I_true ?_ | refine I_false ?_ | refine N_exit ?_ | refine N_ret ?_
    | ((first | apply R_op | apply R_op0)
       · (first | (simp (maxDischargeDepth := 9) only [RA, Nat.reduceEqDiff, Nat.reduceLT, Nat.reduceLeDiff, Nat.reduceAdd, Nat.reduceSub, Nat.reduceMul, Nat.reduceDiv, Nat.reduceMod, Nat.reducePow, Nat.reduceBEq, Nat.reduceGT, reduceIte, T3, T9, T30, T38, T57] <;> rfl) | ((repeat (first | (simp (maxDischargeDepth := 9) only [RA, Nat.reduceEqDiff, Nat.reduceLT, Nat.reduceLeDiff, Nat.reduceAdd, Nat.reduceSub, Nat.reduceMul, Nat.reduceDiv, Nat.reduceMod, Nat.reducePow, Nat.reduceBEq, Nat.reduceGT, reduceIte, T3, T9, T30, T38, T57]; done) | simp (maxDischargeDepth := 9) only [RA, Nat.reduceEqDiff, Nat.reduceLT, Nat.reduceLeDiff, Nat.reduceAdd, Nat.reduceSub, Nat.reduceMul, Nat.reduceDiv, Nat.reduceMod, Nat.reducePow, Nat.reduceBEq, Nat.reduceGT, reduceIte, T3, T9, T30, T38, T57] | simp (disch := first | assumption | omega) only [RV, T3, T9, T30, T38, T57])) <;> rfl)))
    | (apply R_cond
       · (simp only [RE, Nat.reduceEqDiff, Nat.reduceLT, Nat.reduceLeDiff, Nat.reduceBEq, reduceIte, T3, T9, T30, T38, T57] <;> rfl))
    | (apply R_grd
       · (simp only [yieldedA, RY, Nat.reduceEqDiff, reduceIte, T3, T9, T30, T38, T57] <;> rfl)))
  refine D_draw [0, 2, 4, 5, 7, 12, 14] (fun _ => True) (by kernel_rfl) ?_
  repeat (first
    | refine D_nil ?_ | refine I_true ?_ | refine I_false ?_
    | ((first | apply D_op | apply D_op0)
       · (first | (simp (maxDischargeDepth := 9) only [RA, Nat.reduceEqDiff, Nat.reduceLT, Nat.reduceLeDiff, Nat.reduceAdd, Nat.reduceSub, Nat.reduceMul, Nat.reduceDiv, Nat.reduceMod, Nat.reducePow, Nat.reduceBEq, Nat.reduceGT, reduceIte, live62 1, o3, hck, T3, T9, T30, T38, T57] <;> rfl) | ((repeat (first | (simp (maxDischargeDepth := 9) only [RA, Nat.reduceEqDiff, Nat.reduceLT, Nat.reduceLeDiff, Nat.reduceAdd, Nat.reduceSub, Nat.reduceMul, Nat.reduceDiv, Nat.reduceMod, Nat.reducePow, Nat.reduceBEq, Nat.reduceGT, reduceIte, live62 1, o3, hck, T3, T9, T30, T38, T57]; done) | simp (maxDischargeDepth := 9) only [RA, Nat.reduceEqDiff, Nat.reduceLT, Nat.reduceLeDiff, Nat.reduceAdd, Nat.reduceSub, Nat.reduceMul, Nat.reduceDiv, Nat.reduceMod, Nat.reducePow, Nat.reduceBEq, Nat.reduceGT, reduceIte, live62 1, o3, hck, T3, T9, T30, T38, T57] | simp (disch := first | assumption | omega) only [RV, live62 1, o3, hck, T3, T9, T30, T38, T57])) <;> rfl))
       · (intro hF; first | exact chk_pure rfl | exact chk_alloc rfl | exact chk_read rfl | exact chk_iso iso61 | exact chk_call iso61 (fun _ _ _ => rfl) | exact chk_iso iso62 | exact chk_call iso62 (fun _ _ _ => rfl) | exact chk_iso iso63 | exact chk_call iso63 (fun _ _ _ => rfl) | exact chk_iso iso64 | exact chk_call iso64 (fun _ _ _ => rfl) | (exfalso; revert hF; decide) | ((first | refine chk_load ?_ | refine chk_slice ?_ | refine chk_convert ?_ | refine chk_store ?_ | refine chk_call (by kernel_rfl) ?_); simp only [eq_self, ev_tmp, upd_apply, rowsOfV, List.mem_cons, List.not_mem_nil, or_false, forall_eq, forall_eq_or_imp, obj_put, obj_new, nx_new, nx_put, Nat.reduceEqDiff, if_true, if_false, reduceIte, implies_true, and_self, and_true, true_or, or_true, live62 1, o3, hck, T3, T9, T30, T38, T57])))
    | (apply D_grd
       · (simp only [yieldedA, RY, Nat.reduceEqDiff, reduceIte, live62 1, o3, hck, T3, T9, T30, T38, T57] <;> rfl)))
  refine D_fn ?_ (sum63 4 h3 k hk v3 b own3.sl (by omega)) iso63 (fun v4 h4 hp _ r _ hr => hp.2.2 r hr) ?_
  · rfl
  intro v4 h4 ⟨hv4, F4⟩
  subst hv4
  have o4 := F4.2 h.nx (by omega)
  rw [o3] at o4
  repeat (first
    | refine D_nil ?_ | refine I_true ?_ | refine I_false ?_
    | ((first | apply D_op | apply D_op0)
       · (first | (simp (maxDischargeDepth := 9) only [RA, Nat.reduceEqDiff, Nat.reduceLT, Nat.reduceLeDiff, Nat.reduceAdd, Nat.reduceSub, Nat.reduceMul, Nat.reduceDiv, Nat.reduceMod, Nat.reducePow, Nat.reduceBEq, Nat.reduceGT, reduceIte, o4, hck, T3, T9, T30, T38, T57] <;> rfl) | ((repeat (first | (simp (maxDischargeDepth := 9) only [RA, Nat.reduceEqDiff, Nat.reduceLT, Nat.reduceLeDiff, Nat.reduceAdd, Nat.reduceSub, Nat.reduceMul, Nat.reduceDiv, Nat.reduceMod, Nat.reducePow, Nat.reduceBEq, Nat.reduceGT, reduceIte, o4, hck, T3, T9, T30, T38, T57]; done) | simp (maxDischargeDepth := 9) only [RA, Nat.reduceEqDiff, Nat.reduceLT, Nat.reduceLeDiff, Nat.reduceAdd, Nat.reduceSub, Nat.reduceMul, Nat.reduceDiv, Nat.reduceMod, Nat.reducePow, Nat.reduceBEq, Nat.reduceGT, reduceIte, o4, hck, T3, T9, T30, T38, T57] | simp (disch := first | assumption | omega) only [RV, o4, hck, T3, T9, T30, T38, T57])) <;> rfl))
       · (intro hF; first | exact chk_pure rfl | exact chk_alloc rfl | exact chk_read rfl | exact chk_iso iso61 | exact chk_call iso61 (fun _ _ _ => rfl) | exact chk_iso iso62 | exact chk_call iso62 (fun _ _ _ => rfl) | exact chk_iso iso63 | exact chk_call iso63 (fun _ _ _ => rfl) | exact chk_iso iso64 | exact chk_call iso64 (fun _ _ _ => rfl) | (exfalso; revert hF; decide) | ((first | refine chk_load ?_ | refine chk_slice ?_ | refine chk_convert ?_ | refine chk_store ?_ | refine chk_call (by kernel_rfl) ?_); simp only [eq_self, ev_tmp, upd_apply, rowsOfV, List.mem_cons, List.not_mem_nil, or_false, forall_eq, forall_eq_or_imp, obj_put, obj_new, nx_new, nx_put, Nat.reduceEqDiff, if_true, if_false, reduceIte, implies_true, and_self, and_true, true_or, or_true, o4, hck, T3, T9, T30, T38, T57])))
    | (apply D_grd
       · (simp only [yieldedA, RY, Nat.reduceEqDiff, reduceIte, o4, hck, T3, T9, T30, T38, T57] <;> rfl)))
  refine D_fn ?_ (sum64 9 h4 k hk v2 b (b23.fr0 F4) (by omega)) iso64 (fun v4 h4 hp _ r _ hr => hp.2.2 r hr) ?_
  · rfl
  intro v5 h5 ⟨hv5, F5⟩
  subst hv5
  have b35 := (own3.sl.fr0 F4).fr0 F5
  have b25 := (b23.fr0 F4).fr0 F5
  repeat (first
    | refine D_nil ?_ | refine I_true ?_ | refine I_false ?_
    | ((first | apply D_op | apply D_op0)
       · (first | (simp (maxDischargeDepth := 9) only [RA, Nat.reduceEqDiff, Nat.reduceLT, Nat.reduceLeDiff, Nat.reduceAdd, Nat.reduceSub, Nat.reduceMul, Nat.reduceDiv, Nat.reduceMod, Nat.reducePow, Nat.reduceBEq, Nat.reduceGT, reduceIte, beq57 hT hT, S38str b35, S38str b25, fr_refl, str_eql, T3, T9, T30, T38, T57] <;> rfl) | ((repeat (first | (simp (maxDischargeDepth := 9) only [RA, Nat.reduceEqDiff, Nat.reduceLT, Nat.reduceLeDiff, Nat.reduceAdd, Nat.reduceSub, Nat.reduceMul, Nat.reduceDiv, Nat.reduceMod, Nat.reducePow, Nat.reduceBEq, Nat.reduceGT, reduceIte, beq57 hT hT, S38str b35, S38str b25, fr_refl, str_eql, T3, T9, T30, T38, T57]; done) | simp (maxDischargeDepth := 9) only [RA, Nat.reduceEqDiff, Nat.reduceLT, Nat.reduceLeDiff, Nat.reduceAdd, Nat.reduceSub, Nat.reduceMul, Nat.reduceDiv, Nat.reduceMod, Nat.reducePow, Nat.reduceBEq, Nat.reduceGT, reduceIte, beq57 hT hT, S38str b35, S38str b25, fr_refl, str_eql, T3, T9, T30, T38, T57] | simp (disch := first | assumption | omega) only [RV, beq57 hT hT, S38str b35, S38str b25, fr_refl, str_eql, T3, T9, T30, T38, T57])) <;> rfl))
       · (intro hF; first | exact chk_pure rfl | exact chk_alloc rfl | exact chk_read rfl | exact chk_iso iso61 | exact chk_call iso61 (fun _ _ _ => rfl) | exact chk_iso iso62 | exact chk_call iso62 (fun _ _ _ => rfl) | exact chk_iso iso63 | exact chk_call iso63 (fun _ _ _ => rfl) | exact chk_iso iso64 | exact chk_call iso64 (fun _ _ _ => rfl) | (exfalso; revert hF; decide) | ((first | refine chk_load ?_ | refine chk_slice ?_ | refine chk_convert ?_ | refine chk_store ?_ | refine chk_call (by kernel_rfl) ?_); simp only [eq_self, ev_tmp, upd_apply, rowsOfV, List.mem_cons, List.not_mem_nil, or_false, forall_eq, forall_eq_or_imp, obj_put, obj_new, nx_new, nx_put, Nat.reduceEqDiff, if_true, if_false, reduceIte, implies_true, and_self, and_true, true_or, or_true, beq57 hT hT, S38str b35, S38str b25, fr_refl, str_eql, T3, T9, T30, T38, T57])))
    | (apply D_grd
       · (simp only [yieldedA, RY, Nat.reduceEqDiff, reduceIte, beq57 hT hT, S38str b35, S38str b25, fr_refl, str_eql, T3, T9, T30, T38, T57] <;> rfl)))
  repeat (first
    | refine R_seq ?_ | refine R_region ?_ | refine R_nil ?_ | refine Q_seq ?_ | refine Q_norm ?_ | refine Q_seqr ?_ | refine Q_seqx ?_ | refine Q_bl ?_ | refine Q_blr ?_ | refine Q_blx ?_ | refine Q_blo rfl ?_ | refine R_block ?_ | refine R_skip ?_ | refine R_exit ?_ | refine R_ret ?_ | refine I_true ?_ | refine I_false ?_ | refine N_exit ?_ | refine N_ret ?_
    | ((first | apply R_op | apply R_op0)
       · (first | (simp (maxDischargeDepth := 9) only [RA, Nat.reduceEqDiff, Nat.reduceLT, Nat.reduceLeDiff, Nat.reduceAdd, Nat.reduceSub, Nat.reduceMul, Nat.reduceDiv, Nat.reduceMod, Nat.reducePow, Nat.reduceBEq, Nat.reduceGT, reduceIte, T3, T9, T30, T38, T57] <;> rfl) | ((repeat (first | (simp (maxDischargeDepth := 9) only [RA, Nat.reduceEqDiff, Nat.reduceLT, Nat.reduceLeDiff, Nat.reduceAdd, Nat.reduceSub, Nat.reduceMul, Nat.reduceDiv, Nat.reduceMod, Nat.reducePow, Nat.reduceBEq, Nat.reduceGT, reduceIte, T3, T9, T30, T38, T57]; done) | simp (maxDischargeDepth := 9) only [RA, Nat.reduceEqDiff, Nat.reduceLT, Nat.reduceLeDiff, Nat.reduceAdd, Nat.reduceSub, Nat.reduceMul, Nat.reduceDiv, Nat.reduceMod, Nat.reducePow, Nat.reduceBEq, Nat.reduceGT, reduceIte, T3, T9, T30, T38, T57] | simp (disch := first | assumption | omega) only [RV, T3, T9, T30, T38, T57])) <;> rfl)))
    | (apply R_cond
       · (simp only [RE, Nat.reduceEqDiff, Nat.reduceLT, Nat.reduceLeDiff, Nat.reduceBEq, reduceIte, T3, T9, T30, T38, T57] <;> rfl))
    | (apply R_grd
       · (simp only [yieldedA, RY, Nat.reduceEqDiff, reduceIte, T3, T9, T30, T38, T57] <;> rfl)))
  (first | refine ⟨.inr rfl, _, rfl, ?_⟩ | refine ⟨.inl rfl, _, rfl, ?_⟩) <;> simp only [packR, upd_apply, Nat.reduceEqDiff, if_true, if_false, reduceIte]
theorem wl18 (h : Heap) (avs : List Value) (ty : TyVs Try.prog 8 h [30, 38] avs) : ∃ v h', evF (cfg0 Try.prog) 13 18 avs h = some (.ok v, h') ∧ v = .bool true := by
  match avs, ty with
  | [u, w], ⟨s0, s1, _⟩ =>
    obtain ⟨k, hk, rfl⟩ := tyv30 s0
    obtain ⟨ys, hc, _⟩ := tyv38 s1
    exact law18 h k hk w ys hc
end Go.Proofs.Ytfehhihllenjiaa
