/- Sealed bytes: laws of opening. -/
import Derived.Test.YtfehhihllenjiaaLf
set_option linter.all false
namespace Go.Proofs.Ytfehhihllenjiaa
open Go.Proofs
attribute [local irreducible] evOps iter evD evF evC evLoad evStore evAlloc evIndexAddr evIndex evLenB evBox evBin evUn evConvert evExtract evSlice evAppend evCopy evNil evBuild evMakeSlice evBuildSlice evBuiltin Program.underlying
attribute [local irreducible] leB padZ framedS block xorS polyT oneT tagS sealS ask5L lk1 ln2 lText
set_option maxRecDepth 20000 in
set_option maxHeartbeats 8000000 in
theorem law35 (h : Heap) (k n' : List (BitVec 8)) (hk : k.length = 32) (hn : n'.length = 12) (v w : Value) (a b : List (BitVec 8)) (ha : By h v a) (hb : By h w b) : ∃ v1 h1, evF (cfg0 Try.prog) 14 35 [.agg ⟨ask5L k n' v⟩, w] h = some (.ok v1, h1) ∧ v1 = .bool true := by
  rw [evF_eq Try.func35 rfl]
  apply evEnd_of_W
  simp only [Try.f35]
  obtain ⟨H, hH⟩ : ∃ H, H = newRowH h .rw 1 (ask5L k n' v) := ⟨_, rfl⟩
  have hbx := ask5_box (k := k) (n := n') (h := h) (sl_one ha)
  rw [← hH] at hbx
  have o0 : H.obj h.nx = some (.row .rw 1 (ask5L k n' v)) := by rw [hH]; simp only [RH]
  have nH : H.nx = h.nx + 1 := by rw [hH]; simp only [RH]
  have FH : Fr h.nx h H := by rw [hH]; (repeat (first | assumption | exact Fr.refl _ _ | refine Fr.new ?_ ?_ _ _ _ | refine Fr.put ?_ ?_ _ | omega | (simp only [RH]; omega)))
  clear hH
  obtain ⟨v2, e2, b2, r2⟩ := few77 12 H v a 200 (ha.fr0 FH)
  obtain ⟨w2, e3, b3, r3⟩ := few77 12 H w b 300 (hb.fr0 FH)
  have hal : (a.take 200).length ≤ 200 := by simp; omega
  have hbl : (b.take 300).length ≤ 300 := by simp; omega
  have hrv : ∀ r ∈ rowsOfV v2, r < h.nx := fun r hr => ha.lt r (r2 r hr)
  have hrw : ∀ r ∈ rowsOfV w2, r < h.nx := fun r hr => hb.lt r (r3 r hr)
  generalize a.take 200 = a at b2 hal
  generalize b.take 300 = b at b3 hbl
  obtain ⟨va, vc, hv2⟩ := sl_shape b2
  obtain ⟨wa, wc, hw2⟩ := sl_shape b3
  subst hv2 hw2
  repeat (first
    | refine R_seq ?_ | refine R_region ?_ | refine R_nil ?_ | refine Q_seq ?_ | refine Q_norm ?_ | refine Q_seqr ?_ | refine Q_seqx ?_ | refine Q_bl ?_ | refine Q_blr ?_ | refine Q_blx ?_ | refine Q_blo rfl ?_ | refine R_block ?_ | refine R_skip ?_ | refine R_exit ?_ | refine R_ret ?_ | refine I_true ?_ | refine I_false ?_ | refine N_exit ?_ | refine N_ret ?_
    | ((first | apply R_op | apply R_op0)
       · (first | (simp (maxDischargeDepth := 9) only [RA, Nat.reduceEqDiff, Nat.reduceLT, Nat.reduceLeDiff, Nat.reduceAdd, Nat.reduceSub, Nat.reduceMul, Nat.reduceDiv, Nat.reduceMod, Nat.reducePow, Nat.reduceBEq, Nat.reduceGT, reduceIte, hbx, o0, ask5_cut0 hk, ask5_cut1 hk hn, ask5_cell hk hn, ask5_put hk hn, e2, e3, T1, T2, T3, T9, T30, T32, T38, T66, T74] <;> rfl) | ((repeat (first | (simp (maxDischargeDepth := 9) only [RA, Nat.reduceEqDiff, Nat.reduceLT, Nat.reduceLeDiff, Nat.reduceAdd, Nat.reduceSub, Nat.reduceMul, Nat.reduceDiv, Nat.reduceMod, Nat.reducePow, Nat.reduceBEq, Nat.reduceGT, reduceIte, hbx, o0, ask5_cut0 hk, ask5_cut1 hk hn, ask5_cell hk hn, ask5_put hk hn, e2, e3, T1, T2, T3, T9, T30, T32, T38, T66, T74]; done) | simp (maxDischargeDepth := 9) only [RA, Nat.reduceEqDiff, Nat.reduceLT, Nat.reduceLeDiff, Nat.reduceAdd, Nat.reduceSub, Nat.reduceMul, Nat.reduceDiv, Nat.reduceMod, Nat.reducePow, Nat.reduceBEq, Nat.reduceGT, reduceIte, hbx, o0, ask5_cut0 hk, ask5_cut1 hk hn, ask5_cell hk hn, ask5_put hk hn, e2, e3, T1, T2, T3, T9, T30, T32, T38, T66, T74] | simp (disch := first | assumption | omega) only [RV, hbx, o0, ask5_cut0 hk, ask5_cut1 hk hn, ask5_cell hk hn, ask5_put hk hn, e2, e3, T1, T2, T3, T9, T30, T32, T38, T66, T74])) <;> rfl)))
    | (apply R_cond
       · (simp only [RE, Nat.reduceEqDiff, Nat.reduceLT, Nat.reduceLeDiff, Nat.reduceBEq, reduceIte, hbx, o0, ask5_cut0 hk, ask5_cut1 hk hn, ask5_cell hk hn, ask5_put hk hn, e2, e3, T1, T2, T3, T9, T30, T32, T38, T66, T74] <;> rfl))
    | (apply R_grd
       · (simp only [yieldedA, RY, Nat.reduceEqDiff, reduceIte, hbx, o0, ask5_cut0 hk, ask5_cut1 hk hn, ask5_cell hk hn, ask5_put hk hn, e2, e3, T1, T2, T3, T9, T30, T32, T38, T66, T74] <;> rfl)))
  generalize hv2 : Value.slice va a.length vc = v2 at b2 hrv ⊢
  generalize hw2 : Value.slice wa b.length wc = w2 at b3 hrw ⊢
  obtain ⟨G, hG⟩ : ∃ G, G = H.put h.nx (some (.row .rw 1 (ask5L k n' v2))) := ⟨_, rfl⟩
  rw [← hG]
  have oG : G.obj h.nx = some (.row .rw 1 (ask5L k n' v2)) := by rw [hG]; simp only [RH]
  have nG : G.nx = h.nx + 1 := by rw [hG]; simp only [RH]; exact nH
  have bG2 : By G v2 a := b2.keep (by omega) (fun r hr => by have := hrv r hr; rw [hG, obj_put, if_neg (by omega)])
  have bG3 : By G w2 b := b3.keep (by omega) (fun r hr => by have := hrw r hr; rw [hG, obj_put, if_neg (by omega)])
  clear hG b2 b3
  have hc0 := ask5_cut0 (n := n') (v := v2) (kd := .rw) (es := 1) hk
  have hc1 := ask5_cut1 (v := v2) (kd := .rw) (es := 1) hk hn
  have hc2 := ask5_cell (v := v2) (kd := .rw) (es := 1) hk hn
  clear e2 e3 hv2 hw2
  repeat (first
    | refine R_seq ?_ | refine R_region ?_ | refine R_nil ?_ | refine Q_seq ?_ | refine Q_norm ?_ | refine Q_seqr ?_ | refine Q_seqx ?_ | refine Q_bl ?_ | refine Q_blr ?_ | refine Q_blx ?_ | refine Q_blo rfl ?_ | refine R_block ?_ | refine R_skip ?_ | refine R_exit ?_ | refine R_ret ?_ | refine I_true ?_ | refine I_false ?_ | refine N_exit ?_ | refine N_ret ?_
    | ((first | apply R_op | apply R_op0)
       · (first | (simp (maxDischargeDepth := 9) only [RA, Nat.reduceEqDiff, Nat.reduceLT, Nat.reduceLeDiff, Nat.reduceAdd, Nat.reduceSub, Nat.reduceMul, Nat.reduceDiv, Nat.reduceMod, Nat.reducePow, Nat.reduceBEq, Nat.reduceGT, reduceIte, oG, hc0, hc1, hc2, T1, T2, T3, T9, T30, T32, T38, T66, T74] <;> rfl) | ((repeat (first | (simp (maxDischargeDepth := 9) only [RA, Nat.reduceEqDiff, Nat.reduceLT, Nat.reduceLeDiff, Nat.reduceAdd, Nat.reduceSub, Nat.reduceMul, Nat.reduceDiv, Nat.reduceMod, Nat.reducePow, Nat.reduceBEq, Nat.reduceGT, reduceIte, oG, hc0, hc1, hc2, T1, T2, T3, T9, T30, T32, T38, T66, T74]; done) | simp (maxDischargeDepth := 9) only [RA, Nat.reduceEqDiff, Nat.reduceLT, Nat.reduceLeDiff, Nat.reduceAdd, Nat.reduceSub, Nat.reduceMul, Nat.reduceDiv, Nat.reduceMod, Nat.reducePow, Nat.reduceBEq, Nat.reduceGT, reduceIte, oG, hc0, hc1, hc2, T1, T2, T3, T9, T30, T32, T38, T66, T74] | simp (disch := first | assumption | omega) only [RV, oG, hc0, hc1, hc2, T1, T2, T3, T9, T30, T32, T38, T66, T74])) <;> rfl)))
    | (apply R_cond
       · (simp only [RE, Nat.reduceEqDiff, Nat.reduceLT, Nat.reduceLeDiff, Nat.reduceBEq, reduceIte, oG, hc0, hc1, hc2, T1, T2, T3, T9, T30, T32, T38, T66, T74] <;> rfl))
    | (apply R_grd
       · (simp only [yieldedA, RY, Nat.reduceEqDiff, reduceIte, oG, hc0, hc1, hc2, T1, T2, T3, T9, T30, T32, T38, T66, T74] <;> rfl)))
  refine R_fn ?_ (seal79 3 G k n' hk hn v2 w2 a b bG2 bG3 (by omega) (by omega)) ?_
  · rfl
  intro v3 h3 ⟨own3, F3⟩
  have n3 := F3.1
  have o3 := F3.2 h.nx (by omega)
  rw [oG] at o3
  repeat (first
    | refine R_seq ?_ | refine R_region ?_ | refine R_nil ?_ | refine Q_seq ?_ | refine Q_norm ?_ | refine Q_seqr ?_ | refine Q_seqx ?_ | refine Q_bl ?_ | refine Q_blr ?_ | refine Q_blx ?_ | refine Q_blo rfl ?_ | refine R_block ?_ | refine R_skip ?_ | refine R_exit ?_ | refine R_ret ?_ | refine I_true ?_ | refine I_false ?_ | refine N_exit ?_ | refine N_ret ?_
    | ((first | apply R_op | apply R_op0)
       · (first | (simp (maxDischargeDepth := 9) only [RA, Nat.reduceEqDiff, Nat.reduceLT, Nat.reduceLeDiff, Nat.reduceAdd, Nat.reduceSub, Nat.reduceMul, Nat.reduceDiv, Nat.reduceMod, Nat.reducePow, Nat.reduceBEq, Nat.reduceGT, reduceIte, o3, hc0, hc1, hc2, T1, T2, T3, T9, T30, T32, T38, T66, T74] <;> rfl) | ((repeat (first | (simp (maxDischargeDepth := 9) only [RA, Nat.reduceEqDiff, Nat.reduceLT, Nat.reduceLeDiff, Nat.reduceAdd, Nat.reduceSub, Nat.reduceMul, Nat.reduceDiv, Nat.reduceMod, Nat.reducePow, Nat.reduceBEq, Nat.reduceGT, reduceIte, o3, hc0, hc1, hc2, T1, T2, T3, T9, T30, T32, T38, T66, T74]; done) | simp (maxDischargeDepth := 9) only [RA, Nat.reduceEqDiff, Nat.reduceLT, Nat.reduceLeDiff, Nat.reduceAdd, Nat.reduceSub, Nat.reduceMul, Nat.reduceDiv, Nat.reduceMod, Nat.reducePow, Nat.reduceBEq, Nat.reduceGT, reduceIte, o3, hc0, hc1, hc2, T1, T2, T3, T9, T30, T32, T38, T66, T74] | simp (disch := first | assumption | omega) only [RV, o3, hc0, hc1, hc2, T1, T2, T3, T9, T30, T32, T38, T66, T74])) <;> rfl)))
    | (apply R_cond
       · (simp only [RE, Nat.reduceEqDiff, Nat.reduceLT, Nat.reduceLeDiff, Nat.reduceBEq, reduceIte, o3, hc0, hc1, hc2, T1, T2, T3, T9, T30, T32, T38, T66, T74] <;> rfl))
    | (apply R_grd
       · (simp only [yieldedA, RY, Nat.reduceEqDiff, reduceIte, o3, hc0, hc1, hc2, T1, T2, T3, T9, T30, T32, T38, T66, T74] <;> rfl)))
  refine R_fn ?_ (openSeal 2 h3 k n' hk hn v2 v3 a b (bG2.fr0 F3) own3.sl (by omega) (by omega)) ?_
  · rfl
  intro v4 h4 ⟨⟨u, hv4, own4⟩, F4⟩
  subst hv4
  have b34 : By h4 v3 (sealS k n' a b) := own3.sl.fr0 F4
  have b24 : By h4 w2 b := (bG3.fr0 F3).fr0 (F4.le (by omega))
  have hsl := sealS_length k n' a b
  have l3 := S38len b34
  rw [hsl] at l3
  repeat (first
    | refine R_seq ?_ | refine R_region ?_ | refine R_nil ?_ | refine Q_seq ?_ | refine Q_norm ?_ | refine Q_seqr ?_ | refine Q_seqx ?_ | refine Q_bl ?_ | refine Q_blr ?_ | refine Q_blx ?_ | refine Q_blo rfl ?_ | refine R_block ?_ | refine R_skip ?_ | refine R_exit ?_ | refine R_ret ?_ | refine I_true ?_ | refine I_false ?_ | refine N_exit ?_ | refine N_ret ?_
    | ((first | apply R_op | apply R_op0)
       · (first | (simp (maxDischargeDepth := 9) only [RA, Nat.reduceEqDiff, Nat.reduceLT, Nat.reduceLeDiff, Nat.reduceAdd, Nat.reduceSub, Nat.reduceMul, Nat.reduceDiv, Nat.reduceMod, Nat.reducePow, Nat.reduceBEq, Nat.reduceGT, reduceIte, live78 1, l3, S38len b24, S38str own4.sl, S38str b24, str_eql, fr_refl, T1, T2, T3, T9, T30, T32, T38, T66, T74] <;> rfl) | ((repeat (first | (simp (maxDischargeDepth := 9) only [RA, Nat.reduceEqDiff, Nat.reduceLT, Nat.reduceLeDiff, Nat.reduceAdd, Nat.reduceSub, Nat.reduceMul, Nat.reduceDiv, Nat.reduceMod, Nat.reducePow, Nat.reduceBEq, Nat.reduceGT, reduceIte, live78 1, l3, S38len b24, S38str own4.sl, S38str b24, str_eql, fr_refl, T1, T2, T3, T9, T30, T32, T38, T66, T74]; done) | simp (maxDischargeDepth := 9) only [RA, Nat.reduceEqDiff, Nat.reduceLT, Nat.reduceLeDiff, Nat.reduceAdd, Nat.reduceSub, Nat.reduceMul, Nat.reduceDiv, Nat.reduceMod, Nat.reducePow, Nat.reduceBEq, Nat.reduceGT, reduceIte, live78 1, l3, S38len b24, S38str own4.sl, S38str b24, str_eql, fr_refl, T1, T2, T3, T9, T30, T32, T38, T66, T74] | simp (disch := first | assumption | omega) only [RV, live78 1, l3, S38len b24, S38str own4.sl, S38str b24, str_eql, fr_refl, T1, T2, T3, T9, T30, T32, T38, T66, T74])) <;> rfl)))
    | (apply R_cond
       · (simp only [RE, Nat.reduceEqDiff, Nat.reduceLT, Nat.reduceLeDiff, Nat.reduceBEq, reduceIte, live78 1, l3, S38len b24, S38str own4.sl, S38str b24, str_eql, fr_refl, T1, T2, T3, T9, T30, T32, T38, T66, T74] <;> rfl))
    | (apply R_grd
       · (simp only [yieldedA, RY, Nat.reduceEqDiff, reduceIte, live78 1, l3, S38len b24, S38str own4.sl, S38str b24, str_eql, fr_refl, T1, T2, T3, T9, T30, T32, T38, T66, T74] <;> rfl)))
  (first | refine ⟨.inr rfl, _, rfl, ?_⟩ | refine ⟨.inl rfl, _, rfl, ?_⟩) <;> simp only [packR, upd_apply, Nat.reduceEqDiff, if_true, if_false, reduceIte]
theorem wl35 (h : Heap) (avs : List Value) (ty : TyVs Try.prog 8 h [74, 38] avs) : ∃ v h', evF (cfg0 Try.prog) 14 35 avs h = some (.ok v, h') ∧ v = .bool true := by
  match avs, ty with
  | [u, w], ⟨s0, s1, _⟩ =>
    obtain ⟨k, n, v, xs, hk, hn, rfl, hx⟩ := tyv74 s0
    obtain ⟨ys, hc, _⟩ := tyv38 s1
    exact law35 h k n hk hn v w xs ys hx hc
end Go.Proofs.Ytfehhihllenjiaa
