/- Sealed bytes: another tag. -/
import Derived.Test.YtfehhihllenjiaaLf
set_option linter.all false
namespace Go.Proofs.Ytfehhihllenjiaa
open Go.Proofs
set_option maxRecDepth 20000 in
theorem cells57 : Try.prog.cellsOf 57 = 16 := by kernel_rfl
set_option maxRecDepth 20000 in
theorem ty57 {h : Heap} {d : Nat} {cs : List Value} (s : TyL Try.prog (d + 2) h 57 cs) : ∃ k : List (BitVec 8), k.length = 16 ∧ cs = b8 k := ty_arr8 Try.underlying57 Try.underlying5 cells5 cells57 s
theorem sealS_takeb (k n a b : List (BitVec 8)) : (sealS k n a b).take b.length = xorS k n 1#32 b := by
  unfold sealS
  rw [List.take_append_of_le_length (by rw [xorS_length]; omega), List.take_of_length_le (by rw [xorS_length]; omega)]
theorem other_take (x t : List (BitVec 8)) (ht : t.length = 16) : (x ++ t).take ((x ++ t).length - 16) = x := by
  rw [List.length_append, ht, Nat.add_sub_cancel, List.take_append_of_le_length (Nat.le_refl _), List.take_length]
theorem other_drop (x t : List (BitVec 8)) (ht : t.length = 16) : (x ++ t).drop ((x ++ t).length - 16) = t := by
  rw [List.length_append, ht, Nat.add_sub_cancel, List.drop_append_of_le_length (Nat.le_refl _), List.drop_length, List.nil_append]
theorem other_seal (k n a b t : List (BitVec 8)) (ht : t.length = 16) : (xorS k n 1#32 b ++ t = sealS k n a b) ↔ t = tagS k n a (xorS k n 1#32 b) := by
  unfold sealS
  constructor
  · intro hh; exact (List.append_inj hh rfl).2
  · intro hh; rw [hh]
attribute [local irreducible] evOps iter evD evF evC evLoad evStore evAlloc evIndexAddr evIndex evLenB evBox evBin evUn evConvert evExtract evSlice evAppend evCopy evNil evBuild evMakeSlice evBuildSlice evBuiltin Program.underlying
attribute [local irreducible] leB padZ framedS block xorS polyT oneT tagS sealS ask5L lk1 ln2 lText
theorem tyv57 {h : Heap} {v : Value} (s : TyV Try.prog 8 h 57 v) : ∃ k, k.length = 16 ∧ v = .agg ⟨b8 k⟩ := by
  obtain ⟨cs, rfl, s'⟩ := tyv_agg Try.underlying57 rfl s
  obtain ⟨k, hk, rfl⟩ := ty57 (d := 6) s'
  exact ⟨k, hk, rfl⟩
set_option maxRecDepth 20000 in
set_option maxHeartbeats 8000000 in
theorem law37 (h : Heap) (k n' : List (BitVec 8)) (hk : k.length = 32) (hn : n'.length = 12) (v w : Value) (a b t : List (BitVec 8)) (ha : By h v a) (hb : By h w b) (ht : t.length = 16) : ∃ v1 h1, evF (cfg0 Try.prog) 14 37 [.agg ⟨ask5L k n' v⟩, w, .agg ⟨b8 t⟩] h = some (.ok v1, h1) ∧ v1 = .bool true := by
  rw [evF_eq Try.func37 rfl]
  apply evEnd_of_W
  simp only [Try.f37]
  obtain ⟨H, hH⟩ : ∃ H, H = newRowH (newRowH h .rw 1 (ask5L k n' v)) .rw 1 (b8 t) := ⟨_, rfl⟩
  have hbx := ask5_box (k := k) (n := n') (h := h) (sl_one ha)
  obtain ⟨v2, e2, b2, r2⟩ := few77 12 H v a 200 (ha.fr0 (by rw [hH]; (repeat (first | assumption | exact Fr.refl _ _ | refine Fr.new ?_ ?_ _ _ _ | refine Fr.put ?_ ?_ _ | omega | (simp only [RH]; omega)))))
  obtain ⟨w2, e3, b3, r3⟩ := few77 12 H w b 300 (hb.fr0 (by rw [hH]; (repeat (first | assumption | exact Fr.refl _ _ | refine Fr.new ?_ ?_ _ _ _ | refine Fr.put ?_ ?_ _ | omega | (simp only [RH]; omega)))))
  have hal : (a.take 200).length ≤ 200 := by simp; omega
  have hbl : (b.take 300).length ≤ 300 := by simp; omega
  have hrv : ∀ r ∈ rowsOfV v2, r < h.nx := fun r hr => ha.lt r (r2 r hr)
  have hrw : ∀ r ∈ rowsOfV w2, r < h.nx := fun r hr => hb.lt r (r3 r hr)
  generalize a.take 200 = a at b2 hal
  generalize b.take 300 = b at b3 hbl
  obtain ⟨va, vc, hv2⟩ := sl_shape b2
  obtain ⟨wa, wc, hw2⟩ := sl_shape b3
  subst hv2 hw2
  have o0 : H.obj h.nx = some (.row .rw 1 (ask5L k n' v)) := by rw [hH]; simp [RH]
  have o1 : H.obj (h.nx + 1) = some (.row .rw 1 (b8 t)) := by rw [hH]; simp [RH]
  have nH : H.nx = h.nx + 2 := by rw [hH]; simp only [RH]
  rw [hH] at e2 e3
  repeat (first
    | refine R_seq ?_ | refine R_region ?_ | refine R_nil ?_ | refine Q_seq ?_ | refine Q_norm ?_ | refine Q_seqr ?_ | refine Q_seqx ?_ | refine Q_bl ?_ | refine Q_blr ?_ | refine Q_blx ?_ | refine Q_blo rfl ?_ | refine R_block ?_ | refine R_skip ?_ | refine R_exit ?_ | refine R_ret ?_ | refine I_true ?_ | refine I_false ?_ | refine N_exit ?_ | refine N_ret ?_
    | ((first | apply R_op | apply R_op0)
       · (first | (simp (maxDischargeDepth := 9) only [RA, Nat.reduceEqDiff, Nat.reduceLT, Nat.reduceLeDiff, Nat.reduceAdd, Nat.reduceSub, Nat.reduceMul, Nat.reduceDiv, Nat.reduceMod, Nat.reducePow, Nat.reduceBEq, Nat.reduceGT, reduceIte, hbx, T1, T2, T3, T9, T30, T32, T38, T57, T66, T74] <;> rfl) | ((repeat (first | (simp (maxDischargeDepth := 9) only [RA, Nat.reduceEqDiff, Nat.reduceLT, Nat.reduceLeDiff, Nat.reduceAdd, Nat.reduceSub, Nat.reduceMul, Nat.reduceDiv, Nat.reduceMod, Nat.reducePow, Nat.reduceBEq, Nat.reduceGT, reduceIte, hbx, T1, T2, T3, T9, T30, T32, T38, T57, T66, T74]; done) | simp (maxDischargeDepth := 9) only [RA, Nat.reduceEqDiff, Nat.reduceLT, Nat.reduceLeDiff, Nat.reduceAdd, Nat.reduceSub, Nat.reduceMul, Nat.reduceDiv, Nat.reduceMod, Nat.reducePow, Nat.reduceBEq, Nat.reduceGT, reduceIte, hbx, T1, T2, T3, T9, T30, T32, T38, T57, T66, T74] | simp (disch := first | assumption | omega) only [RV, hbx, T1, T2, T3, T9, T30, T32, T38, T57, T66, T74])) <;> rfl)))
    | (apply R_cond
       · (simp only [RE, Nat.reduceEqDiff, Nat.reduceLT, Nat.reduceLeDiff, Nat.reduceBEq, reduceIte, hbx, T1, T2, T3, T9, T30, T32, T38, T57, T66, T74] <;> rfl))
    | (apply R_grd
       · (simp only [yieldedA, RY, Nat.reduceEqDiff, reduceIte, hbx, T1, T2, T3, T9, T30, T32, T38, T57, T66, T74] <;> rfl)))
  rw [← hH] at e2 e3 ⊢
  clear hH
  repeat (first
    | refine R_seq ?_ | refine R_region ?_ | refine R_nil ?_ | refine Q_seq ?_ | refine Q_norm ?_ | refine Q_seqr ?_ | refine Q_seqx ?_ | refine Q_bl ?_ | refine Q_blr ?_ | refine Q_blx ?_ | refine Q_blo rfl ?_ | refine R_block ?_ | refine R_skip ?_ | refine R_exit ?_ | refine R_ret ?_ | refine I_true ?_ | refine I_false ?_ | refine N_exit ?_ | refine N_ret ?_
    | ((first | apply R_op | apply R_op0)
       · (first | (simp (maxDischargeDepth := 9) only [RA, Nat.reduceEqDiff, Nat.reduceLT, Nat.reduceLeDiff, Nat.reduceAdd, Nat.reduceSub, Nat.reduceMul, Nat.reduceDiv, Nat.reduceMod, Nat.reducePow, Nat.reduceBEq, Nat.reduceGT, reduceIte, o0, ask5_cut0 hk, ask5_cut1 hk hn, ask5_cell hk hn, ask5_put hk hn, e2, e3, T1, T2, T3, T9, T30, T32, T38, T57, T66, T74] <;> rfl) | ((repeat (first | (simp (maxDischargeDepth := 9) only [RA, Nat.reduceEqDiff, Nat.reduceLT, Nat.reduceLeDiff, Nat.reduceAdd, Nat.reduceSub, Nat.reduceMul, Nat.reduceDiv, Nat.reduceMod, Nat.reducePow, Nat.reduceBEq, Nat.reduceGT, reduceIte, o0, ask5_cut0 hk, ask5_cut1 hk hn, ask5_cell hk hn, ask5_put hk hn, e2, e3, T1, T2, T3, T9, T30, T32, T38, T57, T66, T74]; done) | simp (maxDischargeDepth := 9) only [RA, Nat.reduceEqDiff, Nat.reduceLT, Nat.reduceLeDiff, Nat.reduceAdd, Nat.reduceSub, Nat.reduceMul, Nat.reduceDiv, Nat.reduceMod, Nat.reducePow, Nat.reduceBEq, Nat.reduceGT, reduceIte, o0, ask5_cut0 hk, ask5_cut1 hk hn, ask5_cell hk hn, ask5_put hk hn, e2, e3, T1, T2, T3, T9, T30, T32, T38, T57, T66, T74] | simp (disch := first | assumption | omega) only [RV, o0, ask5_cut0 hk, ask5_cut1 hk hn, ask5_cell hk hn, ask5_put hk hn, e2, e3, T1, T2, T3, T9, T30, T32, T38, T57, T66, T74])) <;> rfl)))
    | (apply R_cond
       · (simp only [RE, Nat.reduceEqDiff, Nat.reduceLT, Nat.reduceLeDiff, Nat.reduceBEq, reduceIte, o0, ask5_cut0 hk, ask5_cut1 hk hn, ask5_cell hk hn, ask5_put hk hn, e2, e3, T1, T2, T3, T9, T30, T32, T38, T57, T66, T74] <;> rfl))
    | (apply R_grd
       · (simp only [yieldedA, RY, Nat.reduceEqDiff, reduceIte, o0, ask5_cut0 hk, ask5_cut1 hk hn, ask5_cell hk hn, ask5_put hk hn, e2, e3, T1, T2, T3, T9, T30, T32, T38, T57, T66, T74] <;> rfl)))
  generalize hv2 : Value.slice va a.length vc = v2 at b2 hrv ⊢
  generalize hw2 : Value.slice wa b.length wc = w2 at b3 hrw ⊢
  obtain ⟨G, hG⟩ : ∃ G, G = H.put h.nx (some (.row .rw 1 (ask5L k n' v2))) := ⟨_, rfl⟩
  rw [← hG]
  have oG : G.obj h.nx = some (.row .rw 1 (ask5L k n' v2)) := by rw [hG]; simp only [RH]
  have oT : G.obj (h.nx + 1) = some (.row .rw 1 (b8 t)) := by
    have c1 : (h.nx + 1 = h.nx) = False := eq_false (by omega)
    rw [hG]; simp only [RH, c1, reduceIte]; exact o1
  have nG : G.nx = h.nx + 2 := by rw [hG]; simp only [RH]; exact nH
  have bG2 : By G v2 a := b2.keep (by omega) (fun r hr => by have := hrv r hr; rw [hG, obj_put, if_neg (by omega)])
  have bG3 : By G w2 b := b3.keep (by omega) (fun r hr => by have := hrw r hr; rw [hG, obj_put, if_neg (by omega)])
  clear hG b2 b3
  have hc0 := ask5_cut0 (n := n') (v := v2) (kd := .rw) (es := 1) hk
  have hc1 := ask5_cut1 (v := v2) (kd := .rw) (es := 1) hk hn
  have hc2 := ask5_cell (v := v2) (kd := .rw) (es := 1) hk hn
  clear e2 e3 hv2 hw2
  repeat (first
    | refine R_seq ?_ | refine R_region ?_ | refine R_nil ?_ | refine Q_seq ?_ | refine Q_norm ?_ | refine Q_seqr ?_ | refine Q_seqx ?_ | refine Q_bl ?_ | refine Q_blr ?_ | refine Q_blx ?_ | refine Q_blo rfl ?_ | refine R_block ?_ | refine R_skip ?_ | refine R_exit ?_ | refine R_ret ?_ | refine I_true ?_ | refine I_false ?_ | refine N_exit ?_ | refine N_ret ?_
    | ((first | apply R_op | apply R_op0)
       · (first | (simp (maxDischargeDepth := 9) only [RA, Nat.reduceEqDiff, Nat.reduceLT, Nat.reduceLeDiff, Nat.reduceAdd, Nat.reduceSub, Nat.reduceMul, Nat.reduceDiv, Nat.reduceMod, Nat.reducePow, Nat.reduceBEq, Nat.reduceGT, reduceIte, oG, hc0, hc1, hc2, T1, T2, T3, T9, T30, T32, T38, T57, T66, T74] <;> rfl) | ((repeat (first | (simp (maxDischargeDepth := 9) only [RA, Nat.reduceEqDiff, Nat.reduceLT, Nat.reduceLeDiff, Nat.reduceAdd, Nat.reduceSub, Nat.reduceMul, Nat.reduceDiv, Nat.reduceMod, Nat.reducePow, Nat.reduceBEq, Nat.reduceGT, reduceIte, oG, hc0, hc1, hc2, T1, T2, T3, T9, T30, T32, T38, T57, T66, T74]; done) | simp (maxDischargeDepth := 9) only [RA, Nat.reduceEqDiff, Nat.reduceLT, Nat.reduceLeDiff, Nat.reduceAdd, Nat.reduceSub, Nat.reduceMul, Nat.reduceDiv, Nat.reduceMod, Nat.reducePow, Nat.reduceBEq, Nat.reduceGT, reduceIte, oG, hc0, hc1, hc2, T1, T2, T3, T9, T30, T32, T38, T57, T66, T74] | simp (disch := first | assumption | omega) only [RV, oG, hc0, hc1, hc2, T1, T2, T3, T9, T30, T32, T38, T57, T66, T74])) <;> rfl)))
    | (apply R_cond
       · (simp only [RE, Nat.reduceEqDiff, Nat.reduceLT, Nat.reduceLeDiff, Nat.reduceBEq, reduceIte, oG, hc0, hc1, hc2, T1, T2, T3, T9, T30, T32, T38, T57, T66, T74] <;> rfl))
    | (apply R_grd
       · (simp only [yieldedA, RY, Nat.reduceEqDiff, reduceIte, oG, hc0, hc1, hc2, T1, T2, T3, T9, T30, T32, T38, T57, T66, T74] <;> rfl)))
  refine R_fn ?_ (seal79 3 G k n' hk hn v2 w2 a b bG2 bG3 (by omega) (by omega)) ?_
  · rfl
  intro v3 h3 ⟨own3, F3⟩
  have n3 := F3.1
  have o3 := F3.2 h.nx (by omega)
  rw [oG] at o3
  have t3 := F3.2 (h.nx + 1) (by omega)
  rw [oT] at t3
  have bG33 := bG3.fr0 F3
  have hsl := sealS_length k n' a b
  have l3 := S38len own3.sl
  rw [hsl] at l3
  repeat (first
    | refine R_seq ?_ | refine R_region ?_ | refine R_nil ?_ | refine Q_seq ?_ | refine Q_norm ?_ | refine Q_seqr ?_ | refine Q_seqx ?_ | refine Q_bl ?_ | refine Q_blr ?_ | refine Q_blx ?_ | refine Q_blo rfl ?_ | refine R_block ?_ | refine R_skip ?_ | refine R_exit ?_ | refine R_ret ?_ | refine I_true ?_ | refine I_false ?_ | refine N_exit ?_ | refine N_ret ?_
    | ((first | apply R_op | apply R_op0)
       · (first | (simp (maxDischargeDepth := 9) only [RA, Nat.reduceEqDiff, Nat.reduceLT, Nat.reduceLeDiff, Nat.reduceAdd, Nat.reduceSub, Nat.reduceMul, Nat.reduceDiv, Nat.reduceMod, Nat.reducePow, Nat.reduceBEq, Nat.reduceGT, reduceIte, l3, S38len bG33, T1, T2, T3, T9, T30, T32, T38, T57, T66, T74] <;> rfl) | ((repeat (first | (simp (maxDischargeDepth := 9) only [RA, Nat.reduceEqDiff, Nat.reduceLT, Nat.reduceLeDiff, Nat.reduceAdd, Nat.reduceSub, Nat.reduceMul, Nat.reduceDiv, Nat.reduceMod, Nat.reducePow, Nat.reduceBEq, Nat.reduceGT, reduceIte, l3, S38len bG33, T1, T2, T3, T9, T30, T32, T38, T57, T66, T74]; done) | simp (maxDischargeDepth := 9) only [RA, Nat.reduceEqDiff, Nat.reduceLT, Nat.reduceLeDiff, Nat.reduceAdd, Nat.reduceSub, Nat.reduceMul, Nat.reduceDiv, Nat.reduceMod, Nat.reducePow, Nat.reduceBEq, Nat.reduceGT, reduceIte, l3, S38len bG33, T1, T2, T3, T9, T30, T32, T38, T57, T66, T74] | simp (disch := first | assumption | omega) only [RV, l3, S38len bG33, T1, T2, T3, T9, T30, T32, T38, T57, T66, T74])) <;> rfl)))
    | (apply R_cond
       · (simp only [RE, Nat.reduceEqDiff, Nat.reduceLT, Nat.reduceLeDiff, Nat.reduceBEq, reduceIte, l3, S38len bG33, T1, T2, T3, T9, T30, T32, T38, T57, T66, T74] <;> rfl))
    | (apply R_grd
       · (simp only [yieldedA, RY, Nat.reduceEqDiff, reduceIte, l3, S38len bG33, T1, T2, T3, T9, T30, T32, T38, T57, T66, T74] <;> rfl)))
  have hS1 : h.nx + 1 < h3.nx := by omega
  have hle : b.length ≤ (sealS k n' a b).length := by omega
  have s3 := S38h (hh := b.length) own3.sl fr_refl hle
  have b3s := By.subh (mx := none) (hh := b.length) own3.sl hle (fun m hm => nomatch hm)
  rw [sealS_takeb] at b3s
  refine D_draw [5, 6] (fun r => r < h3.nx) (by kernel_rfl) ?_
  repeat (first
    | refine D_nil ?_ | refine I_true ?_ | refine I_false ?_
    | ((first | apply D_op | apply D_op0)
       · (first | (simp (maxDischargeDepth := 9) only [RA, Nat.reduceEqDiff, Nat.reduceLT, Nat.reduceLeDiff, Nat.reduceAdd, Nat.reduceSub, Nat.reduceMul, Nat.reduceDiv, Nat.reduceMod, Nat.reducePow, Nat.reduceBEq, Nat.reduceGT, reduceIte, S38len bG33, s3, hS1, T1, T2, T3, T9, T30, T32, T38, T57, T66, T74] <;> rfl) | ((repeat (first | (simp (maxDischargeDepth := 9) only [RA, Nat.reduceEqDiff, Nat.reduceLT, Nat.reduceLeDiff, Nat.reduceAdd, Nat.reduceSub, Nat.reduceMul, Nat.reduceDiv, Nat.reduceMod, Nat.reducePow, Nat.reduceBEq, Nat.reduceGT, reduceIte, S38len bG33, s3, hS1, T1, T2, T3, T9, T30, T32, T38, T57, T66, T74]; done) | simp (maxDischargeDepth := 9) only [RA, Nat.reduceEqDiff, Nat.reduceLT, Nat.reduceLeDiff, Nat.reduceAdd, Nat.reduceSub, Nat.reduceMul, Nat.reduceDiv, Nat.reduceMod, Nat.reducePow, Nat.reduceBEq, Nat.reduceGT, reduceIte, S38len bG33, s3, hS1, T1, T2, T3, T9, T30, T32, T38, T57, T66, T74] | simp (disch := first | assumption | omega) only [RV, S38len bG33, s3, hS1, T1, T2, T3, T9, T30, T32, T38, T57, T66, T74])) <;> rfl))
       · (intro hF; first | exact chk_pure rfl | exact chk_alloc rfl | exact chk_read rfl | exact chk_iso iso77 | exact chk_call iso77 (fun _ _ _ => rfl) | exact chk_iso iso78 | exact chk_call iso78 (fun _ _ _ => rfl) | exact chk_iso iso79 | exact chk_call iso79 (fun _ _ _ => rfl) | exact chk_iso iso81 | exact chk_call iso81 (fun _ _ _ => rfl) | (exfalso; revert hF; decide) | ((first | refine chk_load ?_ | refine chk_slice ?_ | refine chk_convert ?_ | refine chk_store ?_ | refine chk_call (by kernel_rfl) ?_); simp only [eq_self, ev_tmp, upd_apply, rowsOfV, List.mem_cons, List.not_mem_nil, or_false, forall_eq, forall_eq_or_imp, obj_put, obj_new, nx_new, nx_put, Nat.reduceEqDiff, if_true, if_false, reduceIte, implies_true, and_self, and_true, true_or, or_true, S38len bG33, s3, hS1, T1, T2, T3, T9, T30, T32, T38, T57, T66, T74])))
    | (apply D_grd
       · (simp only [yieldedA, RY, Nat.reduceEqDiff, reduceIte, S38len bG33, s3, hS1, T1, T2, T3, T9, T30, T32, T38, T57, T66, T74] <;> rfl)))
  refine D_app E38 Try.underlying38 (v := emptyS) (w := subS 1 0 b.length none v3) (lo := h3.nx) (xs := []) (ys := xorS k n' 1#32 b) ?_ ?_ .empty b3s (Nat.le_refl _) (by rw [xorS_length]; simp; omega) (fun v' h' own wt _ r _ hr => wt.rest r hr (by simp [rowsOfV, emptyS])) ?_
  · first | rfl | (first | rw [ev_tmp] | rw [ev_const] | skip) <;> simp only [upd_apply, Nat.reduceEqDiff, if_true, if_false, reduceIte, lit_iv, lit_w8]
  · first | rfl | (first | rw [ev_tmp] | rw [ev_const] | skip) <;> simp only [upd_apply, Nat.reduceEqDiff, if_true, if_false, reduceIte, lit_iv, lit_w8]
  intro v4 h4 own4 wt4
  rw [List.nil_append] at own4
  have n4 := wt4.nx
  have F4 : Fr h3.nx h3 h4 := wt4.fr (Nat.le_refl _) (fun r hr => by simp [rowsOfV, emptyS] at hr)
  have t4 := F4.2 (h.nx + 1) (by omega)
  rw [t3] at t4
  have bt : By h4 (.slice (some ⟨h.nx + 1, 0, none⟩) 16 16) t := by_row (k := .rw) (by omega) t4 (Nat.le_refl _) ht
  repeat (first
    | refine D_nil ?_ | refine I_true ?_ | refine I_false ?_
    | ((first | apply D_op | apply D_op0)
       · (first | (simp (maxDischargeDepth := 9) only [RA, Nat.reduceEqDiff, Nat.reduceLT, Nat.reduceLeDiff, Nat.reduceAdd, Nat.reduceSub, Nat.reduceMul, Nat.reduceDiv, Nat.reduceMod, Nat.reducePow, Nat.reduceBEq, Nat.reduceGT, reduceIte, hS1, T1, T2, T3, T9, T30, T32, T38, T57, T66, T74] <;> rfl) | ((repeat (first | (simp (maxDischargeDepth := 9) only [RA, Nat.reduceEqDiff, Nat.reduceLT, Nat.reduceLeDiff, Nat.reduceAdd, Nat.reduceSub, Nat.reduceMul, Nat.reduceDiv, Nat.reduceMod, Nat.reducePow, Nat.reduceBEq, Nat.reduceGT, reduceIte, hS1, T1, T2, T3, T9, T30, T32, T38, T57, T66, T74]; done) | simp (maxDischargeDepth := 9) only [RA, Nat.reduceEqDiff, Nat.reduceLT, Nat.reduceLeDiff, Nat.reduceAdd, Nat.reduceSub, Nat.reduceMul, Nat.reduceDiv, Nat.reduceMod, Nat.reducePow, Nat.reduceBEq, Nat.reduceGT, reduceIte, hS1, T1, T2, T3, T9, T30, T32, T38, T57, T66, T74] | simp (disch := first | assumption | omega) only [RV, hS1, T1, T2, T3, T9, T30, T32, T38, T57, T66, T74])) <;> rfl))
       · (intro hF; first | exact chk_pure rfl | exact chk_alloc rfl | exact chk_read rfl | exact chk_iso iso77 | exact chk_call iso77 (fun _ _ _ => rfl) | exact chk_iso iso78 | exact chk_call iso78 (fun _ _ _ => rfl) | exact chk_iso iso79 | exact chk_call iso79 (fun _ _ _ => rfl) | exact chk_iso iso81 | exact chk_call iso81 (fun _ _ _ => rfl) | (exfalso; revert hF; decide) | ((first | refine chk_load ?_ | refine chk_slice ?_ | refine chk_convert ?_ | refine chk_store ?_ | refine chk_call (by kernel_rfl) ?_); simp only [eq_self, ev_tmp, upd_apply, rowsOfV, List.mem_cons, List.not_mem_nil, or_false, forall_eq, forall_eq_or_imp, obj_put, obj_new, nx_new, nx_put, Nat.reduceEqDiff, if_true, if_false, reduceIte, implies_true, and_self, and_true, true_or, or_true, hS1, T1, T2, T3, T9, T30, T32, T38, T57, T66, T74])))
    | (apply D_grd
       · (simp only [yieldedA, RY, Nat.reduceEqDiff, reduceIte, hS1, T1, T2, T3, T9, T30, T32, T38, T57, T66, T74] <;> rfl)))
  refine D_app E38 Try.underlying38 (v := v4) (w := .slice (some ⟨h.nx + 1, 0, none⟩) 16 16) (lo := h3.nx) (xs := xorS k n' 1#32 b) (ys := t) ?_ ?_ own4 bt (by omega) (by rw [xorS_length]; omega) (fun v' h' own wt hF => absurd hF (by decide)) ?_
  · first | rfl | (first | rw [ev_tmp] | rw [ev_const] | skip) <;> simp only [upd_apply, Nat.reduceEqDiff, if_true, if_false, reduceIte, lit_iv, lit_w8]
  · first | rfl | (first | rw [ev_tmp] | rw [ev_const] | skip) <;> simp only [upd_apply, Nat.reduceEqDiff, if_true, if_false, reduceIte, lit_iv, lit_w8]
  intro v5 h5 own5 wt5
  have n5 := wt5.nx
  have F5 : Fr h3.nx h3 h5 := F4.trans (wt5.owFr (by omega) own4)
  have o5 := F5.2 h.nx (by omega)
  rw [o3] at o5
  repeat (first
    | refine D_nil ?_ | refine I_true ?_ | refine I_false ?_
    | ((first | apply D_op | apply D_op0)
       · (first | (simp (maxDischargeDepth := 9) only [RA, Nat.reduceEqDiff, Nat.reduceLT, Nat.reduceLeDiff, Nat.reduceAdd, Nat.reduceSub, Nat.reduceMul, Nat.reduceDiv, Nat.reduceMod, Nat.reducePow, Nat.reduceBEq, Nat.reduceGT, reduceIte, T1, T2, T3, T9, T30, T32, T38, T57, T66, T74] <;> rfl) | ((repeat (first | (simp (maxDischargeDepth := 9) only [RA, Nat.reduceEqDiff, Nat.reduceLT, Nat.reduceLeDiff, Nat.reduceAdd, Nat.reduceSub, Nat.reduceMul, Nat.reduceDiv, Nat.reduceMod, Nat.reducePow, Nat.reduceBEq, Nat.reduceGT, reduceIte, T1, T2, T3, T9, T30, T32, T38, T57, T66, T74]; done) | simp (maxDischargeDepth := 9) only [RA, Nat.reduceEqDiff, Nat.reduceLT, Nat.reduceLeDiff, Nat.reduceAdd, Nat.reduceSub, Nat.reduceMul, Nat.reduceDiv, Nat.reduceMod, Nat.reducePow, Nat.reduceBEq, Nat.reduceGT, reduceIte, T1, T2, T3, T9, T30, T32, T38, T57, T66, T74] | simp (disch := first | assumption | omega) only [RV, T1, T2, T3, T9, T30, T32, T38, T57, T66, T74])) <;> rfl))
       · (intro hF; first | exact chk_pure rfl | exact chk_alloc rfl | exact chk_read rfl | exact chk_iso iso77 | exact chk_call iso77 (fun _ _ _ => rfl) | exact chk_iso iso78 | exact chk_call iso78 (fun _ _ _ => rfl) | exact chk_iso iso79 | exact chk_call iso79 (fun _ _ _ => rfl) | exact chk_iso iso81 | exact chk_call iso81 (fun _ _ _ => rfl) | (exfalso; revert hF; decide) | ((first | refine chk_load ?_ | refine chk_slice ?_ | refine chk_convert ?_ | refine chk_store ?_ | refine chk_call (by kernel_rfl) ?_); simp only [eq_self, ev_tmp, upd_apply, rowsOfV, List.mem_cons, List.not_mem_nil, or_false, forall_eq, forall_eq_or_imp, obj_put, obj_new, nx_new, nx_put, Nat.reduceEqDiff, if_true, if_false, reduceIte, implies_true, and_self, and_true, true_or, or_true, T1, T2, T3, T9, T30, T32, T38, T57, T66, T74])))
    | (apply D_grd
       · (simp only [yieldedA, RY, Nat.reduceEqDiff, reduceIte, T1, T2, T3, T9, T30, T32, T38, T57, T66, T74] <;> rfl)))
  repeat (first
    | refine R_seq ?_ | refine R_region ?_ | refine R_nil ?_ | refine Q_seq ?_ | refine Q_norm ?_ | refine Q_seqr ?_ | refine Q_seqx ?_ | refine Q_bl ?_ | refine Q_blr ?_ | refine Q_blx ?_ | refine Q_blo rfl ?_ | refine R_block ?_ | refine R_skip ?_ | refine R_exit ?_ | refine R_ret ?_ | refine I_true ?_ | refine I_false ?_ | refine N_exit ?_ | refine N_ret ?_
    | ((first | apply R_op | apply R_op0)
       · (first | (simp (maxDischargeDepth := 9) only [RA, Nat.reduceEqDiff, Nat.reduceLT, Nat.reduceLeDiff, Nat.reduceAdd, Nat.reduceSub, Nat.reduceMul, Nat.reduceDiv, Nat.reduceMod, Nat.reducePow, Nat.reduceBEq, Nat.reduceGT, reduceIte, o5, hc0, hc1, hc2, T1, T2, T3, T9, T30, T32, T38, T57, T66, T74] <;> rfl) | ((repeat (first | (simp (maxDischargeDepth := 9) only [RA, Nat.reduceEqDiff, Nat.reduceLT, Nat.reduceLeDiff, Nat.reduceAdd, Nat.reduceSub, Nat.reduceMul, Nat.reduceDiv, Nat.reduceMod, Nat.reducePow, Nat.reduceBEq, Nat.reduceGT, reduceIte, o5, hc0, hc1, hc2, T1, T2, T3, T9, T30, T32, T38, T57, T66, T74]; done) | simp (maxDischargeDepth := 9) only [RA, Nat.reduceEqDiff, Nat.reduceLT, Nat.reduceLeDiff, Nat.reduceAdd, Nat.reduceSub, Nat.reduceMul, Nat.reduceDiv, Nat.reduceMod, Nat.reducePow, Nat.reduceBEq, Nat.reduceGT, reduceIte, o5, hc0, hc1, hc2, T1, T2, T3, T9, T30, T32, T38, T57, T66, T74] | simp (disch := first | assumption | omega) only [RV, o5, hc0, hc1, hc2, T1, T2, T3, T9, T30, T32, T38, T57, T66, T74])) <;> rfl)))
    | (apply R_cond
       · (simp only [RE, Nat.reduceEqDiff, Nat.reduceLT, Nat.reduceLeDiff, Nat.reduceBEq, reduceIte, o5, hc0, hc1, hc2, T1, T2, T3, T9, T30, T32, T38, T57, T66, T74] <;> rfl))
    | (apply R_grd
       · (simp only [yieldedA, RY, Nat.reduceEqDiff, reduceIte, o5, hc0, hc1, hc2, T1, T2, T3, T9, T30, T32, T38, T57, T66, T74] <;> rfl)))
  have hxl : (xorS k n' 1#32 b ++ t).length = b.length + 16 := by rw [List.length_append, xorS_length, ht]
  refine R_fn ?_ (open81 2 h5 k n' hk hn v2 v5 a (xorS k n' 1#32 b ++ t) ((bG2.fr0 F3).fr0 (F5.le (by omega))) own5.sl (by omega) (by omega) (by omega)) ?_
  · rfl
  intro v6 h6 ⟨hv6, F6⟩
  rw [other_take _ _ ht, other_drop _ _ ht] at hv6
  have b56 : By h6 v5 (xorS k n' 1#32 b ++ t) := own5.sl.fr0 F6
  have b36 : By h6 v3 (sealS k n' a b) := (own3.sl.fr0 (F5.le (by omega))).fr0 F6
  by_cases hc : t = tagS k n' a (xorS k n' 1#32 b)
  · have hq := (other_seal k n' a b t ht).2 hc
    rw [if_pos hc] at hv6
    obtain ⟨u, rfl, own6⟩ := hv6
    repeat (first
      | refine R_seq ?_ | refine R_region ?_ | refine R_nil ?_ | refine Q_seq ?_ | refine Q_norm ?_ | refine Q_seqr ?_ | refine Q_seqx ?_ | refine Q_bl ?_ | refine Q_blr ?_ | refine Q_blx ?_ | refine Q_blo rfl ?_ | refine R_block ?_ | refine R_skip ?_ | refine R_exit ?_ | refine R_ret ?_ | refine I_true ?_ | refine I_false ?_ | refine N_exit ?_ | refine N_ret ?_
      | ((first | apply R_op | apply R_op0)
         · (first | (simp (maxDischargeDepth := 9) only [RA, Nat.reduceEqDiff, Nat.reduceLT, Nat.reduceLeDiff, Nat.reduceAdd, Nat.reduceSub, Nat.reduceMul, Nat.reduceDiv, Nat.reduceMod, Nat.reducePow, Nat.reduceBEq, Nat.reduceGT, reduceIte, S38str b56, S38str b36, str_eql, fr_refl, eq_true hq, live78 1, T1, T2, T3, T9, T30, T32, T38, T57, T66, T74] <;> rfl) | ((repeat (first | (simp (maxDischargeDepth := 9) only [RA, Nat.reduceEqDiff, Nat.reduceLT, Nat.reduceLeDiff, Nat.reduceAdd, Nat.reduceSub, Nat.reduceMul, Nat.reduceDiv, Nat.reduceMod, Nat.reducePow, Nat.reduceBEq, Nat.reduceGT, reduceIte, S38str b56, S38str b36, str_eql, fr_refl, eq_true hq, live78 1, T1, T2, T3, T9, T30, T32, T38, T57, T66, T74]; done) | simp (maxDischargeDepth := 9) only [RA, Nat.reduceEqDiff, Nat.reduceLT, Nat.reduceLeDiff, Nat.reduceAdd, Nat.reduceSub, Nat.reduceMul, Nat.reduceDiv, Nat.reduceMod, Nat.reducePow, Nat.reduceBEq, Nat.reduceGT, reduceIte, S38str b56, S38str b36, str_eql, fr_refl, eq_true hq, live78 1, T1, T2, T3, T9, T30, T32, T38, T57, T66, T74] | simp (disch := first | assumption | omega) only [RV, S38str b56, S38str b36, str_eql, fr_refl, eq_true hq, live78 1, T1, T2, T3, T9, T30, T32, T38, T57, T66, T74])) <;> rfl)))
      | (apply R_cond
         · (simp only [RE, Nat.reduceEqDiff, Nat.reduceLT, Nat.reduceLeDiff, Nat.reduceBEq, reduceIte, S38str b56, S38str b36, str_eql, fr_refl, eq_true hq, live78 1, T1, T2, T3, T9, T30, T32, T38, T57, T66, T74] <;> rfl))
      | (apply R_grd
         · (simp only [yieldedA, RY, Nat.reduceEqDiff, reduceIte, S38str b56, S38str b36, str_eql, fr_refl, eq_true hq, live78 1, T1, T2, T3, T9, T30, T32, T38, T57, T66, T74] <;> rfl)))
    (first | refine ⟨.inr rfl, _, rfl, ?_⟩ | refine ⟨.inl rfl, _, rfl, ?_⟩) <;> simp only [packR, upd_apply, Nat.reduceEqDiff, if_true, if_false, reduceIte]
  · have hq : ¬ xorS k n' 1#32 b ++ t = sealS k n' a b := fun hh => hc ((other_seal k n' a b t ht).1 hh)
    rw [if_neg hc] at hv6
    subst hv6
    repeat (first
      | refine R_seq ?_ | refine R_region ?_ | refine R_nil ?_ | refine Q_seq ?_ | refine Q_norm ?_ | refine Q_seqr ?_ | refine Q_seqx ?_ | refine Q_bl ?_ | refine Q_blr ?_ | refine Q_blx ?_ | refine Q_blo rfl ?_ | refine R_block ?_ | refine R_skip ?_ | refine R_exit ?_ | refine R_ret ?_ | refine I_true ?_ | refine I_false ?_ | refine N_exit ?_ | refine N_ret ?_
      | ((first | apply R_op | apply R_op0)
         · (first | (simp (maxDischargeDepth := 9) only [RA, Nat.reduceEqDiff, Nat.reduceLT, Nat.reduceLeDiff, Nat.reduceAdd, Nat.reduceSub, Nat.reduceMul, Nat.reduceDiv, Nat.reduceMod, Nat.reducePow, Nat.reduceBEq, Nat.reduceGT, reduceIte, S38str b56, S38str b36, str_eql, fr_refl, eq_false hq, live78 1, len38, T1, T2, T3, T9, T30, T32, T38, T57, T66, T74] <;> rfl) | ((repeat (first | (simp (maxDischargeDepth := 9) only [RA, Nat.reduceEqDiff, Nat.reduceLT, Nat.reduceLeDiff, Nat.reduceAdd, Nat.reduceSub, Nat.reduceMul, Nat.reduceDiv, Nat.reduceMod, Nat.reducePow, Nat.reduceBEq, Nat.reduceGT, reduceIte, S38str b56, S38str b36, str_eql, fr_refl, eq_false hq, live78 1, len38, T1, T2, T3, T9, T30, T32, T38, T57, T66, T74]; done) | simp (maxDischargeDepth := 9) only [RA, Nat.reduceEqDiff, Nat.reduceLT, Nat.reduceLeDiff, Nat.reduceAdd, Nat.reduceSub, Nat.reduceMul, Nat.reduceDiv, Nat.reduceMod, Nat.reducePow, Nat.reduceBEq, Nat.reduceGT, reduceIte, S38str b56, S38str b36, str_eql, fr_refl, eq_false hq, live78 1, len38, T1, T2, T3, T9, T30, T32, T38, T57, T66, T74] | simp (disch := first | assumption | omega) only [RV, S38str b56, S38str b36, str_eql, fr_refl, eq_false hq, live78 1, len38, T1, T2, T3, T9, T30, T32, T38, T57, T66, T74])) <;> rfl)))
      | (apply R_cond
         · (simp only [RE, Nat.reduceEqDiff, Nat.reduceLT, Nat.reduceLeDiff, Nat.reduceBEq, reduceIte, S38str b56, S38str b36, str_eql, fr_refl, eq_false hq, live78 1, len38, T1, T2, T3, T9, T30, T32, T38, T57, T66, T74] <;> rfl))
      | (apply R_grd
         · (simp only [yieldedA, RY, Nat.reduceEqDiff, reduceIte, S38str b56, S38str b36, str_eql, fr_refl, eq_false hq, live78 1, len38, T1, T2, T3, T9, T30, T32, T38, T57, T66, T74] <;> rfl)))
    (first | refine ⟨.inr rfl, _, rfl, ?_⟩ | refine ⟨.inl rfl, _, rfl, ?_⟩) <;> simp only [packR, upd_apply, Nat.reduceEqDiff, if_true, if_false, reduceIte]
theorem wl37 (h : Heap) (avs : List Value) (ty : TyVs Try.prog 8 h [74, 38, 57] avs) : ∃ v h', evF (cfg0 Try.prog) 14 37 avs h = some (.ok v, h') ∧ v = .bool true := by
  match avs, ty with
  | [u, w, z], ⟨s0, s1, s2, _⟩ =>
    obtain ⟨k, n, v, xs, hk, hn, rfl, hx⟩ := tyv74 s0
    obtain ⟨ys, hc, _⟩ := tyv38 s1
    obtain ⟨t, ht, rfl⟩ := tyv57 s2
    exact law37 h k n hk hn v w xs ys t hx hc ht
end Go.Proofs.Ytfehhihllenjiaa
