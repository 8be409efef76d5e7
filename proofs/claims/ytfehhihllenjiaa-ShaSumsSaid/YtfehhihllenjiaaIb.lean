/- The statements of the digest: what is filled up. -/
import Derived.Test.YtfehhihllenjiaaIa
import Derived.Test.YtfehhihllenjiaaPd
import Derived.Test.YtfehhihllenjiaaGd
set_option linter.all false
namespace Go.Proofs.Ytfehhihllenjiaa
open Go.Proofs
theorem sumS_eq (b : List (BitVec 8)) : sumS b = (List.range 32).map (outB (stAt (padS b) (padN b.length / 64))) := rfl
attribute [local irreducible] evOps iter evD evF evC evLoad evStore evAlloc evIndexAddr evIndex evLenB evBox evBin evUn evConvert evExtract evSlice evAppend evCopy evNil evBuild evMakeSlice evBuildSlice evBuiltin Program.underlying
attribute [local irreducible] padS padN St.l stAt shaStep outB outS filled blk sumS start
set_option maxRecDepth 20000 in
set_option maxHeartbeats 8000000 in
theorem law16 (h : Heap) (v w : Value) (a b : List (BitVec 8)) (ha : By h v a) (hb : By h w b) : ∃ v1 h1, evF (cfg0 Try.prog) 12 16 [v, w] h = some (.ok v1, h1) ∧ v1 = .bool true := by
  rw [evF_eq Try.func16 rfl]
  apply evEnd_of_W
  simp only [Try.f16]
  obtain ⟨v2, e2, a2, _⟩ := few50 10 _ v a 300 ha
  obtain ⟨w2, f2, b2, _⟩ := few50 10 _ w b 300 hb
  repeat (first
    | refine R_seq ?_ | refine R_region ?_ | refine R_nil ?_ | refine Q_seq ?_ | refine Q_norm ?_ | refine Q_seqr ?_ | refine Q_seqx ?_ | refine Q_bl ?_ | refine Q_blr ?_ | refine Q_blx ?_ | refine Q_blo rfl ?_ | refine R_block ?_ | refine R_skip ?_ | refine R_exit ?_ | refine R_ret ?_ | refine I_true ?_ | refine I_false ?_ | refine N_exit ?_ | refine N_ret ?_
    | ((first | apply R_op | apply R_op0)
       · (first | (simp (maxDischargeDepth := 9) only [RA, Nat.reduceEqDiff, Nat.reduceLT, Nat.reduceLeDiff, Nat.reduceAdd, Nat.reduceSub, Nat.reduceMul, Nat.reduceDiv, Nat.reduceMod, Nat.reducePow, Nat.reduceBEq, Nat.reduceGT, reduceIte, e2, f2, T3, T4, T9, T38] <;> rfl) | ((repeat (first | (simp (maxDischargeDepth := 9) only [RA, Nat.reduceEqDiff, Nat.reduceLT, Nat.reduceLeDiff, Nat.reduceAdd, Nat.reduceSub, Nat.reduceMul, Nat.reduceDiv, Nat.reduceMod, Nat.reducePow, Nat.reduceBEq, Nat.reduceGT, reduceIte, e2, f2, T3, T4, T9, T38]; done) | simp (maxDischargeDepth := 9) only [RA, Nat.reduceEqDiff, Nat.reduceLT, Nat.reduceLeDiff, Nat.reduceAdd, Nat.reduceSub, Nat.reduceMul, Nat.reduceDiv, Nat.reduceMod, Nat.reducePow, Nat.reduceBEq, Nat.reduceGT, reduceIte, e2, f2, T3, T4, T9, T38] | simp (disch := first | assumption | omega) only [RV, e2, f2, T3, T4, T9, T38])) <;> rfl)))
    | (apply R_cond
       · (simp only [RE, Nat.reduceEqDiff, Nat.reduceLT, Nat.reduceLeDiff, Nat.reduceBEq, reduceIte, e2, f2, T3, T4, T9, T38] <;> rfl))
    | (apply R_grd
       · (simp only [yieldedA, RY, Nat.reduceEqDiff, reduceIte, e2, f2, T3, T4, T9, T38] <;> rfl)))
  have hal : (a.take 300).length ≤ 300 := by simp; omega
  have hbl : (b.take 300).length ≤ 300 := by simp; omega
  generalize a.take 300 = a at a2 hal
  generalize b.take 300 = b at b2 hbl
  refine D_draw [0, 3, 4, 6, 7, 10, 12] (fun _ => True) (by kernel_rfl) ?_
  repeat (first
    | refine D_nil ?_ | refine I_true ?_ | refine I_false ?_
    | ((first | apply D_op | apply D_op0)
       · (first | (simp (maxDischargeDepth := 9) only [RA, Nat.reduceEqDiff, Nat.reduceLT, Nat.reduceLeDiff, Nat.reduceAdd, Nat.reduceSub, Nat.reduceMul, Nat.reduceDiv, Nat.reduceMod, Nat.reducePow, Nat.reduceBEq, Nat.reduceGT, reduceIte, live51 3, T3, T4, T9, T38] <;> rfl) | ((repeat (first | (simp (maxDischargeDepth := 9) only [RA, Nat.reduceEqDiff, Nat.reduceLT, Nat.reduceLeDiff, Nat.reduceAdd, Nat.reduceSub, Nat.reduceMul, Nat.reduceDiv, Nat.reduceMod, Nat.reducePow, Nat.reduceBEq, Nat.reduceGT, reduceIte, live51 3, T3, T4, T9, T38]; done) | simp (maxDischargeDepth := 9) only [RA, Nat.reduceEqDiff, Nat.reduceLT, Nat.reduceLeDiff, Nat.reduceAdd, Nat.reduceSub, Nat.reduceMul, Nat.reduceDiv, Nat.reduceMod, Nat.reducePow, Nat.reduceBEq, Nat.reduceGT, reduceIte, live51 3, T3, T4, T9, T38] | simp (disch := first | assumption | omega) only [RV, live51 3, T3, T4, T9, T38])) <;> rfl))
       · (intro hF; first | exact chk_pure rfl | exact chk_alloc rfl | exact chk_read rfl | exact chk_iso iso50 | exact chk_call iso50 (fun _ _ _ => rfl) | exact chk_iso iso51 | exact chk_call iso51 (fun _ _ _ => rfl) | exact chk_iso iso54 | exact chk_call iso54 (fun _ _ _ => rfl) | (exfalso; revert hF; decide) | ((first | refine chk_load ?_ | refine chk_slice ?_ | refine chk_convert ?_ | refine chk_store ?_ | refine chk_call (by kernel_rfl) ?_); simp only [eq_self, ev_tmp, upd_apply, rowsOfV, List.mem_cons, List.not_mem_nil, or_false, forall_eq, forall_eq_or_imp, obj_put, obj_new, nx_new, nx_put, Nat.reduceEqDiff, if_true, if_false, reduceIte, implies_true, and_self, and_true, true_or, or_true, live51 3, T3, T4, T9, T38])))
    | (apply D_grd
       · (simp only [yieldedA, RY, Nat.reduceEqDiff, reduceIte, live51 3, T3, T4, T9, T38] <;> rfl)))
  refine D_fn ?_ (pad54 10 h v2 a a2 (by omega)) iso54 (fun v4 h4 hp _ r _ hr => hp.2.2 r hr) ?_
  · rfl
  intro v3 h3 ⟨own3, F3⟩
  have a23 : By h3 v2 a := a2.fr0 F3
  have b23 : By h3 w2 b := b2.fr0 F3
  repeat (first
    | refine D_nil ?_ | refine I_true ?_ | refine I_false ?_
    | ((first | apply D_op | apply D_op0)
       · (first | (simp (maxDischargeDepth := 9) only [RA, Nat.reduceEqDiff, Nat.reduceLT, Nat.reduceLeDiff, Nat.reduceAdd, Nat.reduceSub, Nat.reduceMul, Nat.reduceDiv, Nat.reduceMod, Nat.reducePow, Nat.reduceBEq, Nat.reduceGT, reduceIte, S38str own3.sl, RF, T3, T4, T9, T38] <;> rfl) | ((repeat (first | (simp (maxDischargeDepth := 9) only [RA, Nat.reduceEqDiff, Nat.reduceLT, Nat.reduceLeDiff, Nat.reduceAdd, Nat.reduceSub, Nat.reduceMul, Nat.reduceDiv, Nat.reduceMod, Nat.reducePow, Nat.reduceBEq, Nat.reduceGT, reduceIte, S38str own3.sl, RF, T3, T4, T9, T38]; done) | simp (maxDischargeDepth := 9) only [RA, Nat.reduceEqDiff, Nat.reduceLT, Nat.reduceLeDiff, Nat.reduceAdd, Nat.reduceSub, Nat.reduceMul, Nat.reduceDiv, Nat.reduceMod, Nat.reducePow, Nat.reduceBEq, Nat.reduceGT, reduceIte, S38str own3.sl, RF, T3, T4, T9, T38] | simp (disch := first | assumption | omega) only [RV, S38str own3.sl, RF, T3, T4, T9, T38])) <;> rfl))
       · (intro hF; first | exact chk_pure rfl | exact chk_alloc rfl | exact chk_read rfl | exact chk_iso iso50 | exact chk_call iso50 (fun _ _ _ => rfl) | exact chk_iso iso51 | exact chk_call iso51 (fun _ _ _ => rfl) | exact chk_iso iso54 | exact chk_call iso54 (fun _ _ _ => rfl) | (exfalso; revert hF; decide) | ((first | refine chk_load ?_ | refine chk_slice ?_ | refine chk_convert ?_ | refine chk_store ?_ | refine chk_call (by kernel_rfl) ?_); simp only [eq_self, ev_tmp, upd_apply, rowsOfV, List.mem_cons, List.not_mem_nil, or_false, forall_eq, forall_eq_or_imp, obj_put, obj_new, nx_new, nx_put, Nat.reduceEqDiff, if_true, if_false, reduceIte, implies_true, and_self, and_true, true_or, or_true, S38str own3.sl, RF, T3, T4, T9, T38])))
    | (apply D_grd
       · (simp only [yieldedA, RY, Nat.reduceEqDiff, reduceIte, S38str own3.sl, RF, T3, T4, T9, T38] <;> rfl)))
  refine D_fn ?_ (pad54 10 h3 w2 b b23 (by omega)) iso54 (fun v4 h4 hp _ r _ hr => hp.2.2 r hr) ?_
  · rfl
  intro v4 h4 ⟨own4, F4⟩
  have a24 : By h4 v2 a := a23.fr0 F4
  have b24 : By h4 w2 b := b23.fr0 F4
  repeat (first
    | refine D_nil ?_ | refine I_true ?_ | refine I_false ?_
    | ((first | apply D_op | apply D_op0)
       · (first | (simp (maxDischargeDepth := 9) only [RA, Nat.reduceEqDiff, Nat.reduceLT, Nat.reduceLeDiff, Nat.reduceAdd, Nat.reduceSub, Nat.reduceMul, Nat.reduceDiv, Nat.reduceMod, Nat.reducePow, Nat.reduceBEq, Nat.reduceGT, reduceIte, S38str own4.sl, S38str a24, S38str b24, RF, str_eql, b_eql _ _ Try.underlying4, T3, T4, T9, T38] <;> rfl) | ((repeat (first | (simp (maxDischargeDepth := 9) only [RA, Nat.reduceEqDiff, Nat.reduceLT, Nat.reduceLeDiff, Nat.reduceAdd, Nat.reduceSub, Nat.reduceMul, Nat.reduceDiv, Nat.reduceMod, Nat.reducePow, Nat.reduceBEq, Nat.reduceGT, reduceIte, S38str own4.sl, S38str a24, S38str b24, RF, str_eql, b_eql _ _ Try.underlying4, T3, T4, T9, T38]; done) | simp (maxDischargeDepth := 9) only [RA, Nat.reduceEqDiff, Nat.reduceLT, Nat.reduceLeDiff, Nat.reduceAdd, Nat.reduceSub, Nat.reduceMul, Nat.reduceDiv, Nat.reduceMod, Nat.reducePow, Nat.reduceBEq, Nat.reduceGT, reduceIte, S38str own4.sl, S38str a24, S38str b24, RF, str_eql, b_eql _ _ Try.underlying4, T3, T4, T9, T38] | simp (disch := first | assumption | omega) only [RV, S38str own4.sl, S38str a24, S38str b24, RF, str_eql, b_eql _ _ Try.underlying4, T3, T4, T9, T38])) <;> rfl))
       · (intro hF; first | exact chk_pure rfl | exact chk_alloc rfl | exact chk_read rfl | exact chk_iso iso50 | exact chk_call iso50 (fun _ _ _ => rfl) | exact chk_iso iso51 | exact chk_call iso51 (fun _ _ _ => rfl) | exact chk_iso iso54 | exact chk_call iso54 (fun _ _ _ => rfl) | (exfalso; revert hF; decide) | ((first | refine chk_load ?_ | refine chk_slice ?_ | refine chk_convert ?_ | refine chk_store ?_ | refine chk_call (by kernel_rfl) ?_); simp only [eq_self, ev_tmp, upd_apply, rowsOfV, List.mem_cons, List.not_mem_nil, or_false, forall_eq, forall_eq_or_imp, obj_put, obj_new, nx_new, nx_put, Nat.reduceEqDiff, if_true, if_false, reduceIte, implies_true, and_self, and_true, true_or, or_true, S38str own4.sl, S38str a24, S38str b24, RF, str_eql, b_eql _ _ Try.underlying4, T3, T4, T9, T38])))
    | (apply D_grd
       · (simp only [yieldedA, RY, Nat.reduceEqDiff, reduceIte, S38str own4.sl, S38str a24, S38str b24, RF, str_eql, b_eql _ _ Try.underlying4, T3, T4, T9, T38] <;> rfl)))
  repeat (first
    | refine R_seq ?_ | refine R_region ?_ | refine R_nil ?_ | refine Q_seq ?_ | refine Q_norm ?_ | refine Q_seqr ?_ | refine Q_seqx ?_ | refine Q_bl ?_ | refine Q_blr ?_ | refine Q_blx ?_ | refine Q_blo rfl ?_ | refine R_block ?_ | refine R_skip ?_ | refine R_exit ?_ | refine R_ret ?_ | refine I_true ?_ | refine I_false ?_ | refine N_exit ?_ | refine N_ret ?_
    | ((first | apply R_op | apply R_op0)
       · (first | (simp (maxDischargeDepth := 9) only [RA, Nat.reduceEqDiff, Nat.reduceLT, Nat.reduceLeDiff, Nat.reduceAdd, Nat.reduceSub, Nat.reduceMul, Nat.reduceDiv, Nat.reduceMod, Nat.reducePow, Nat.reduceBEq, Nat.reduceGT, reduceIte, T3, T4, T9, T38] <;> rfl) | ((repeat (first | (simp (maxDischargeDepth := 9) only [RA, Nat.reduceEqDiff, Nat.reduceLT, Nat.reduceLeDiff, Nat.reduceAdd, Nat.reduceSub, Nat.reduceMul, Nat.reduceDiv, Nat.reduceMod, Nat.reducePow, Nat.reduceBEq, Nat.reduceGT, reduceIte, T3, T4, T9, T38]; done) | simp (maxDischargeDepth := 9) only [RA, Nat.reduceEqDiff, Nat.reduceLT, Nat.reduceLeDiff, Nat.reduceAdd, Nat.reduceSub, Nat.reduceMul, Nat.reduceDiv, Nat.reduceMod, Nat.reducePow, Nat.reduceBEq, Nat.reduceGT, reduceIte, T3, T4, T9, T38] | simp (disch := first | assumption | omega) only [RV, T3, T4, T9, T38])) <;> rfl)))
    | (apply R_cond
       · (simp only [RE, Nat.reduceEqDiff, Nat.reduceLT, Nat.reduceLeDiff, Nat.reduceBEq, reduceIte, T3, T4, T9, T38] <;> rfl))
    | (apply R_grd
       · (simp only [yieldedA, RY, Nat.reduceEqDiff, reduceIte, T3, T4, T9, T38] <;> rfl)))
  (first | refine ⟨.inr rfl, _, rfl, ?_⟩ | refine ⟨.inl rfl, _, rfl, ?_⟩) <;> simp only [packR, upd_apply, Nat.reduceEqDiff, if_true, if_false, reduceIte]
  congr 1
  have : (padS a = padS b) = (a = b) := propext ⟨padS_inj (by omega) (by omega), fun e => by rw [e]⟩
  simp only [this]
  simp
set_option maxRecDepth 20000 in
set_option maxHeartbeats 8000000 in
theorem law14 (h : Heap) (v : Value) (b : List (BitVec 8)) (hb : By h v b) : ∃ v1 h1, evF (cfg0 Try.prog) 12 14 [v] h = some (.ok v1, h1) ∧ v1 = .bool true := by
  rw [evF_eq Try.func14 rfl]
  apply evEnd_of_W
  simp only [Try.f14]
  obtain ⟨v2, e2, b2, r2⟩ := few50 10 _ v b 300 hb
  have hps := fun (H : Heap) (p : Nat) (s s' : St) => puts32 (h := H) (b := p) (es := 1) (St.l_length s) (St.l_length s')
  have hps0 := fun (H : Heap) (p : Nat) (s : St) => puts32 (h := H) (b := p) (es := 1) (St.l_length s) (List.length_replicate (n := 8) (a := 0#32))
  have hcs := fun (kd : Kind) (es : Nat) (s : St) => cut32 (k := kd) (es := es) (St.l_length s)
  repeat (first
    | refine R_seq ?_ | refine R_region ?_ | refine R_nil ?_ | refine Q_seq ?_ | refine Q_norm ?_ | refine Q_seqr ?_ | refine Q_seqx ?_ | refine Q_bl ?_ | refine Q_blr ?_ | refine Q_blx ?_ | refine Q_blo rfl ?_ | refine R_block ?_ | refine R_skip ?_ | refine R_exit ?_ | refine R_ret ?_ | refine I_true ?_ | refine I_false ?_ | refine N_exit ?_ | refine N_ret ?_
    | (refine R_draw (by kernel_rfl) ?_)
    | ((first | apply R_op | apply R_op0)
       · (first | (simp (maxDischargeDepth := 9) only [RA, Nat.reduceEqDiff, Nat.reduceLT, Nat.reduceLeDiff, Nat.reduceAdd, Nat.reduceSub, Nat.reduceMul, Nat.reduceDiv, Nat.reduceMod, Nat.reducePow, Nat.reduceBEq, Nat.reduceGT, reduceIte, e2, start56 10, rep32, hps0, T3, T5, T22, T30, T38, T48, cv32_8 Try.underlying22 Try.underlying5] <;> rfl) | ((repeat (first | (simp (maxDischargeDepth := 9) only [RA, Nat.reduceEqDiff, Nat.reduceLT, Nat.reduceLeDiff, Nat.reduceAdd, Nat.reduceSub, Nat.reduceMul, Nat.reduceDiv, Nat.reduceMod, Nat.reducePow, Nat.reduceBEq, Nat.reduceGT, reduceIte, e2, start56 10, rep32, hps0, T3, T5, T22, T30, T38, T48, cv32_8 Try.underlying22 Try.underlying5]; done) | simp (maxDischargeDepth := 9) only [RA, Nat.reduceEqDiff, Nat.reduceLT, Nat.reduceLeDiff, Nat.reduceAdd, Nat.reduceSub, Nat.reduceMul, Nat.reduceDiv, Nat.reduceMod, Nat.reducePow, Nat.reduceBEq, Nat.reduceGT, reduceIte, e2, start56 10, rep32, hps0, T3, T5, T22, T30, T38, T48, cv32_8 Try.underlying22 Try.underlying5] | simp (disch := first | assumption | omega) only [RV, e2, start56 10, rep32, hps0, T3, T5, T22, T30, T38, T48, cv32_8 Try.underlying22 Try.underlying5])) <;> rfl)))
    | (apply R_cond
       · (simp only [RE, Nat.reduceEqDiff, Nat.reduceLT, Nat.reduceLeDiff, Nat.reduceBEq, reduceIte, e2, start56 10, rep32, hps0, T3, T5, T22, T30, T38, T48, cv32_8 Try.underlying22 Try.underlying5] <;> rfl))
    | (apply R_grd
       · (simp only [yieldedA, RY, Nat.reduceEqDiff, reduceIte, e2, start56 10, rep32, hps0, T3, T5, T22, T30, T38, T48, cv32_8 Try.underlying22 Try.underlying5] <;> rfl)))
  have hbl : (b.take 300).length ≤ 300 := by simp; omega
  generalize b.take 300 = b at b2 hbl
  have hNge := padN_ge b.length
  have hNle : padN b.length ≤ b.length + 72 := by unfold padN; omega
  have hN64 : padN b.length = 64 * (padN b.length / 64) := by unfold padN; omega
  have hpl := padS_length b
  refine O_heap fun H hH => ?_
  have FH : Fr h.nx h H := by
    rw [hH]; (repeat (first | assumption | exact Fr.refl _ _ | refine Fr.new ?_ ?_ _ _ _ | refine Fr.put ?_ ?_ _ | omega | (simp only [RH]; omega)))
  have o0 : H.obj h.nx = some (.row .rw 1 (b32 start.l)) := by rw [hH]; simp [RH]
  have n0 : h.nx < H.nx := by rw [hH]; simp [RH]
  have b2H : By H v2 b := b2.fr0 FH
  clear hH
  refine R_fn ?_ (pad54 10 H v2 b b2H (by omega)) ?_
  · rfl
  intro v1 h1 ⟨own1, F1⟩
  have n1 := F1.1
  have q0 := F1.2 h.nx n0
  rw [o0] at q0
  have b21 : By h1 v2 b := b2H.fr0 F1
  repeat (first
    | refine R_seq ?_ | refine R_region ?_ | refine R_nil ?_ | refine Q_seq ?_ | refine Q_norm ?_ | refine Q_seqr ?_ | refine Q_seqx ?_ | refine Q_bl ?_ | refine Q_blr ?_ | refine Q_blx ?_ | refine Q_blo rfl ?_ | refine R_block ?_ | refine R_skip ?_ | refine R_exit ?_ | refine R_ret ?_ | refine I_true ?_ | refine I_false ?_ | refine N_exit ?_ | refine N_ret ?_
    | (refine R_draw (by kernel_rfl) ?_)
    | ((first | apply R_op | apply R_op0)
       · (first | (simp (maxDischargeDepth := 9) only [RA, Nat.reduceEqDiff, Nat.reduceLT, Nat.reduceLeDiff, Nat.reduceAdd, Nat.reduceSub, Nat.reduceMul, Nat.reduceDiv, Nat.reduceMod, Nat.reducePow, Nat.reduceBEq, Nat.reduceGT, reduceIte, T3, T5, T22, T30, T38, T48, cv32_8 Try.underlying22 Try.underlying5] <;> rfl) | ((repeat (first | (simp (maxDischargeDepth := 9) only [RA, Nat.reduceEqDiff, Nat.reduceLT, Nat.reduceLeDiff, Nat.reduceAdd, Nat.reduceSub, Nat.reduceMul, Nat.reduceDiv, Nat.reduceMod, Nat.reducePow, Nat.reduceBEq, Nat.reduceGT, reduceIte, T3, T5, T22, T30, T38, T48, cv32_8 Try.underlying22 Try.underlying5]; done) | simp (maxDischargeDepth := 9) only [RA, Nat.reduceEqDiff, Nat.reduceLT, Nat.reduceLeDiff, Nat.reduceAdd, Nat.reduceSub, Nat.reduceMul, Nat.reduceDiv, Nat.reduceMod, Nat.reducePow, Nat.reduceBEq, Nat.reduceGT, reduceIte, T3, T5, T22, T30, T38, T48, cv32_8 Try.underlying22 Try.underlying5] | simp (disch := first | assumption | omega) only [RV, T3, T5, T22, T30, T38, T48, cv32_8 Try.underlying22 Try.underlying5])) <;> rfl)))
    | (apply R_cond
       · (simp only [RE, Nat.reduceEqDiff, Nat.reduceLT, Nat.reduceLeDiff, Nat.reduceBEq, reduceIte, T3, T5, T22, T30, T38, T48, cv32_8 Try.underlying22 Try.underlying5] <;> rfl))
    | (apply R_grd
       · (simp only [yieldedA, RY, Nat.reduceEqDiff, reduceIte, T3, T5, T22, T30, T38, T48, cv32_8 Try.underlying22 Try.underlying5] <;> rfl)))
  have hrow1 := own1.rows
  refine W_loopK [0, 3, 4, 49, 50, 51] [] (fun k e2 h2 => e2 5 = iv (64 * k) ∧ h2.obj h.nx = some (.row .rw 1 (b32 (stAt (padS b) k).l)) ∧ h1.nx ≤ h2.nx ∧ ∀ r, r < h1.nx → r ≠ h.nx → h2.obj r = h1.obj r) (padN b.length / 64) (by omega) ?_ ?_ ?_
  · refine ⟨by (try simp only [List.map_cons, List.map_nil, RH, Nat.reduceAdd, Nat.reduceEqDiff, reduceIte, ev_tmp, ev_const, lit_iv, lit_w8, lit_w32, lit_w64, envOf0, envOf1, envOf2, envOf3, envOf4, envOf5, T3, T5, T22, T30, T38, T48, cv32_8 Try.underlying22 Try.underlying5]), ?_, Nat.le_refl _, fun _ _ _ => rfl⟩
    have e0 : stAt (padS b) 0 = start := by unfold stAt; rfl
    (try simp only [List.map_cons, List.map_nil, RH, Nat.reduceAdd, Nat.reduceEqDiff, reduceIte, ev_tmp, ev_const, lit_iv, lit_w8, lit_w32, lit_w64, envOf0, envOf1, envOf2, envOf3, envOf4, envOf5, e0, q0, T3, T5, T22, T30, T38, T48, cv32_8 Try.underlying22 Try.underlying5])
  · intro k hk e2 h2 hK hO hN ⟨j5, o2, n2, x2⟩
    simp only [List.map_cons, List.map_nil, List.cons.injEq, and_true, RH, Nat.reduceAdd, Nat.reduceEqDiff, reduceIte, envOf0, envOf1, envOf2, envOf3, envOf4, envOf5] at hK
    obtain ⟨K0_0, K0_3, K0_4, K0_49, K0_50, K0_51⟩ := hK
    try simp only [RH] at hN
    have b12 : By h2 v1 (padS b) := own1.sl.keep n2 (fun r hr => x2 r (hrow1 r hr).2 (by have := (hrow1 r hr).1; omega))
    have hle : 64 * k + 64 ≤ (padS b).length := by omega
    have hs1 := S38lh (l := 64 * k) (hh := 64 * k + 64) b12 fr_refl (by omega) hle
    have hsub : By h2 (subS 1 (64 * k) (64 * k + 64) none v1) (blk (padS b) k) := by
      have := By.sub (xs := padS b) (l := 64 * k) (hh := 64 * k + 64) (mx := none) b12 (by omega) hle (fun m hm => nomatch hm)
      rw [show 64 * k + 64 - 64 * k = 64 by omega] at this
      unfold blk; exact this
    repeat (first
      | refine R_seq ?_ | refine R_region ?_ | refine R_nil ?_ | refine Q_seq ?_ | refine Q_norm ?_ | refine Q_seqr ?_ | refine Q_seqx ?_ | refine Q_bl ?_ | refine Q_blr ?_ | refine Q_blx ?_ | refine Q_blo rfl ?_ | refine R_block ?_ | refine R_skip ?_ | refine R_exit ?_ | refine R_ret ?_ | refine I_true ?_ | refine I_false ?_ | refine N_exit ?_ | refine N_ret ?_
      | (refine R_draw (by kernel_rfl) ?_)
      | ((first | apply R_op | apply R_op0)
         · (first | (simp (maxDischargeDepth := 9) only [RA, Nat.reduceEqDiff, Nat.reduceLT, Nat.reduceLeDiff, Nat.reduceAdd, Nat.reduceSub, Nat.reduceMul, Nat.reduceDiv, Nat.reduceMod, Nat.reducePow, Nat.reduceBEq, Nat.reduceGT, reduceIte, j5, S38len b12, hle, o2, hcs, hs1, T3, T5, T22, T30, T38, T48, cv32_8 Try.underlying22 Try.underlying5, K0_0, K0_3, K0_4, K0_49, K0_50, K0_51] <;> rfl) | ((repeat (first | (simp (maxDischargeDepth := 9) only [RA, Nat.reduceEqDiff, Nat.reduceLT, Nat.reduceLeDiff, Nat.reduceAdd, Nat.reduceSub, Nat.reduceMul, Nat.reduceDiv, Nat.reduceMod, Nat.reducePow, Nat.reduceBEq, Nat.reduceGT, reduceIte, j5, S38len b12, hle, o2, hcs, hs1, T3, T5, T22, T30, T38, T48, cv32_8 Try.underlying22 Try.underlying5, K0_0, K0_3, K0_4, K0_49, K0_50, K0_51]; done) | simp (maxDischargeDepth := 9) only [RA, Nat.reduceEqDiff, Nat.reduceLT, Nat.reduceLeDiff, Nat.reduceAdd, Nat.reduceSub, Nat.reduceMul, Nat.reduceDiv, Nat.reduceMod, Nat.reducePow, Nat.reduceBEq, Nat.reduceGT, reduceIte, j5, S38len b12, hle, o2, hcs, hs1, T3, T5, T22, T30, T38, T48, cv32_8 Try.underlying22 Try.underlying5, K0_0, K0_3, K0_4, K0_49, K0_50, K0_51] | simp (disch := first | assumption | omega) only [RV, j5, S38len b12, hle, o2, hcs, hs1, T3, T5, T22, T30, T38, T48, cv32_8 Try.underlying22 Try.underlying5, K0_0, K0_3, K0_4, K0_49, K0_50, K0_51])) <;> rfl)))
      | (apply R_cond
         · (simp only [RE, Nat.reduceEqDiff, Nat.reduceLT, Nat.reduceLeDiff, Nat.reduceBEq, reduceIte, j5, S38len b12, hle, o2, hcs, hs1, T3, T5, T22, T30, T38, T48, cv32_8 Try.underlying22 Try.underlying5, K0_0, K0_3, K0_4, K0_49, K0_50, K0_51] <;> rfl))
      | (apply R_grd
         · (simp only [yieldedA, RY, Nat.reduceEqDiff, reduceIte, j5, S38len b12, hle, o2, hcs, hs1, T3, T5, T22, T30, T38, T48, cv32_8 Try.underlying22 Try.underlying5, K0_0, K0_3, K0_4, K0_49, K0_50, K0_51] <;> rfl)))
    refine R_fn ?_ (step58 7 _ (stAt (padS b) k) _ _ hsub) ?_
    · rfl
    intro v3 h3 ⟨hv3, F3⟩
    subst hv3
    have n3 := F3.1
    have w0 := F3.2 h.nx (by omega)
    rw [o2] at w0
    repeat (first
      | refine R_seq ?_ | refine R_region ?_ | refine R_nil ?_ | refine Q_seq ?_ | refine Q_norm ?_ | refine Q_seqr ?_ | refine Q_seqx ?_ | refine Q_bl ?_ | refine Q_blr ?_ | refine Q_blx ?_ | refine Q_blo rfl ?_ | refine R_block ?_ | refine R_skip ?_ | refine R_exit ?_ | refine R_ret ?_ | refine I_true ?_ | refine I_false ?_ | refine N_exit ?_ | refine N_ret ?_
      | ((first | apply R_op | apply R_op0)
         · (first | (simp (maxDischargeDepth := 9) only [RA, Nat.reduceEqDiff, Nat.reduceLT, Nat.reduceLeDiff, Nat.reduceAdd, Nat.reduceSub, Nat.reduceMul, Nat.reduceDiv, Nat.reduceMod, Nat.reducePow, Nat.reduceBEq, Nat.reduceGT, reduceIte, j5, w0, hps, T3, T5, T22, T30, T38, T48, cv32_8 Try.underlying22 Try.underlying5, K0_0, K0_3, K0_4, K0_49, K0_50, K0_51] <;> rfl) | ((repeat (first | (simp (maxDischargeDepth := 9) only [RA, Nat.reduceEqDiff, Nat.reduceLT, Nat.reduceLeDiff, Nat.reduceAdd, Nat.reduceSub, Nat.reduceMul, Nat.reduceDiv, Nat.reduceMod, Nat.reducePow, Nat.reduceBEq, Nat.reduceGT, reduceIte, j5, w0, hps, T3, T5, T22, T30, T38, T48, cv32_8 Try.underlying22 Try.underlying5, K0_0, K0_3, K0_4, K0_49, K0_50, K0_51]; done) | simp (maxDischargeDepth := 9) only [RA, Nat.reduceEqDiff, Nat.reduceLT, Nat.reduceLeDiff, Nat.reduceAdd, Nat.reduceSub, Nat.reduceMul, Nat.reduceDiv, Nat.reduceMod, Nat.reducePow, Nat.reduceBEq, Nat.reduceGT, reduceIte, j5, w0, hps, T3, T5, T22, T30, T38, T48, cv32_8 Try.underlying22 Try.underlying5, K0_0, K0_3, K0_4, K0_49, K0_50, K0_51] | simp (disch := first | assumption | omega) only [RV, j5, w0, hps, T3, T5, T22, T30, T38, T48, cv32_8 Try.underlying22 Try.underlying5, K0_0, K0_3, K0_4, K0_49, K0_50, K0_51])) <;> rfl)))
      | (apply R_cond
         · (simp only [RE, Nat.reduceEqDiff, Nat.reduceLT, Nat.reduceLeDiff, Nat.reduceBEq, reduceIte, j5, w0, hps, T3, T5, T22, T30, T38, T48, cv32_8 Try.underlying22 Try.underlying5, K0_0, K0_3, K0_4, K0_49, K0_50, K0_51] <;> rfl))
      | (apply R_grd
         · (simp only [yieldedA, RY, Nat.reduceEqDiff, reduceIte, j5, w0, hps, T3, T5, T22, T30, T38, T48, cv32_8 Try.underlying22 Try.underlying5, K0_0, K0_3, K0_4, K0_49, K0_50, K0_51] <;> rfl)))
    refine ⟨rfl, by first | rfl | simp only [List.map_cons, List.map_nil, RH, Nat.reduceAdd, Nat.reduceEqDiff, reduceIte, T3, T5, T22, T30, T38, T48, cv32_8 Try.underlying22 Try.underlying5, K0_0, K0_3, K0_4, K0_49, K0_50, K0_51], by first | rfl | simp only [List.map_cons, List.map_nil, RH, Nat.reduceAdd, Nat.reduceEqDiff, reduceIte, T3, T5, T22, T30, T38, T48, cv32_8 Try.underlying22 Try.underlying5, K0_0, K0_3, K0_4, K0_49, K0_50, K0_51], by first | (simp only [RH, T3, T5, T22, T30, T38, T48, cv32_8 Try.underlying22 Try.underlying5, K0_0, K0_3, K0_4, K0_49, K0_50, K0_51]; done) | ((try simp only [RH, T3, T5, T22, T30, T38, T48, cv32_8 Try.underlying22 Try.underlying5, K0_0, K0_3, K0_4, K0_49, K0_50, K0_51]); omega), ?_⟩
    refine ⟨?_, ?_, ?_, ?_⟩
    · (try simp only [List.map_cons, List.map_nil, RH, Nat.reduceAdd, Nat.reduceEqDiff, reduceIte, ev_tmp, ev_const, lit_iv, lit_w8, lit_w32, lit_w64, envOf0, envOf1, envOf2, envOf3, envOf4, envOf5, T3, T5, T22, T30, T38, T48, cv32_8 Try.underlying22 Try.underlying5, K0_0, K0_3, K0_4, K0_49, K0_50, K0_51])
      rw [show 64 * k + 64 = 64 * (k + 1) by omega]
    · (try simp only [List.map_cons, List.map_nil, RH, Nat.reduceAdd, Nat.reduceEqDiff, reduceIte, ev_tmp, ev_const, lit_iv, lit_w8, lit_w32, lit_w64, envOf0, envOf1, envOf2, envOf3, envOf4, envOf5, T3, T5, T22, T30, T38, T48, cv32_8 Try.underlying22 Try.underlying5, K0_0, K0_3, K0_4, K0_49, K0_50, K0_51])
      have e1 : stAt (padS b) (k + 1) = shaStep (stAt (padS b) k) (blk (padS b) k) := by
        conv => lhs; unfold stAt
      rw [e1]
    · simp only [RH]; omega
    · intro r hr hne
      rw [obj_put, if_neg hne, F3.2 r (by omega)]
      exact x2 r hr hne
  · intro e2 h2 hK hO hN ⟨j5, o2, n2, x2⟩
    simp only [List.map_cons, List.map_nil, List.cons.injEq, and_true, RH, Nat.reduceAdd, Nat.reduceEqDiff, reduceIte, envOf0, envOf1, envOf2, envOf3, envOf4, envOf5] at hK
    obtain ⟨K0_0, K0_3, K0_4, K0_49, K0_50, K0_51⟩ := hK
    try simp only [RH] at hN
    have b12 : By h2 v1 (padS b) := own1.sl.keep n2 (fun r hr => x2 r (hrow1 r hr).2 (by have := (hrow1 r hr).1; omega))
    have hle : ¬ 64 * (padN b.length / 64) + 64 ≤ (padS b).length := by omega
    have b22 : By h2 v2 b := b21.keep n2 (fun r hr => x2 r (b21.lt r hr) (by have := b2.lt r hr; omega))
    repeat (first
      | refine R_seq ?_ | refine R_region ?_ | refine R_nil ?_ | refine Q_seq ?_ | refine Q_norm ?_ | refine Q_seqr ?_ | refine Q_seqx ?_ | refine Q_bl ?_ | refine Q_blr ?_ | refine Q_blx ?_ | refine Q_blo rfl ?_ | refine R_block ?_ | refine R_skip ?_ | refine R_exit ?_ | refine R_ret ?_ | refine I_true ?_ | refine I_false ?_ | refine N_exit ?_ | refine N_ret ?_
      | (refine R_draw (by kernel_rfl) ?_)
      | ((first | apply R_op | apply R_op0)
         · (first | (simp (maxDischargeDepth := 9) only [RA, Nat.reduceEqDiff, Nat.reduceLT, Nat.reduceLeDiff, Nat.reduceAdd, Nat.reduceSub, Nat.reduceMul, Nat.reduceDiv, Nat.reduceMod, Nat.reducePow, Nat.reduceBEq, Nat.reduceGT, reduceIte, j5, S38len b12, hle, T3, T5, T22, T30, T38, T48, cv32_8 Try.underlying22 Try.underlying5, K0_0, K0_3, K0_4, K0_49, K0_50, K0_51] <;> rfl) | ((repeat (first | (simp (maxDischargeDepth := 9) only [RA, Nat.reduceEqDiff, Nat.reduceLT, Nat.reduceLeDiff, Nat.reduceAdd, Nat.reduceSub, Nat.reduceMul, Nat.reduceDiv, Nat.reduceMod, Nat.reducePow, Nat.reduceBEq, Nat.reduceGT, reduceIte, j5, S38len b12, hle, T3, T5, T22, T30, T38, T48, cv32_8 Try.underlying22 Try.underlying5, K0_0, K0_3, K0_4, K0_49, K0_50, K0_51]; done) | simp (maxDischargeDepth := 9) only [RA, Nat.reduceEqDiff, Nat.reduceLT, Nat.reduceLeDiff, Nat.reduceAdd, Nat.reduceSub, Nat.reduceMul, Nat.reduceDiv, Nat.reduceMod, Nat.reducePow, Nat.reduceBEq, Nat.reduceGT, reduceIte, j5, S38len b12, hle, T3, T5, T22, T30, T38, T48, cv32_8 Try.underlying22 Try.underlying5, K0_0, K0_3, K0_4, K0_49, K0_50, K0_51] | simp (disch := first | assumption | omega) only [RV, j5, S38len b12, hle, T3, T5, T22, T30, T38, T48, cv32_8 Try.underlying22 Try.underlying5, K0_0, K0_3, K0_4, K0_49, K0_50, K0_51])) <;> rfl)))
      | (apply R_cond
         · (simp only [RE, Nat.reduceEqDiff, Nat.reduceLT, Nat.reduceLeDiff, Nat.reduceBEq, reduceIte, j5, S38len b12, hle, T3, T5, T22, T30, T38, T48, cv32_8 Try.underlying22 Try.underlying5, K0_0, K0_3, K0_4, K0_49, K0_50, K0_51] <;> rfl))
      | (apply R_grd
         · (simp only [yieldedA, RY, Nat.reduceEqDiff, reduceIte, j5, S38len b12, hle, T3, T5, T22, T30, T38, T48, cv32_8 Try.underlying22 Try.underlying5, K0_0, K0_3, K0_4, K0_49, K0_50, K0_51] <;> rfl)))
    refine R_fn ?_ (sum52 4 h2 v2 b b22 (by omega)) ?_
    · rfl
    intro v3 h3 ⟨hv3, F3⟩
    subst hv3
    have n3 := F3.1
    have w0 := F3.2 h.nx (by omega)
    rw [o2] at w0
    have hsl := sumS_length b
    have hp8 := fun (H : Heap) (p : Nat) => puts8 (h := H) (b := p) (es := 1) hsl (List.length_replicate (n := 32) (a := 0#8))
    have c0 : (h.nx = h3.nx) = False := eq_false (by omega)
    have b13 : By h3 v1 (padS b) := b12.fr0 F3
    repeat (first
      | refine R_seq ?_ | refine R_region ?_ | refine R_nil ?_ | refine Q_seq ?_ | refine Q_norm ?_ | refine Q_seqr ?_ | refine Q_seqx ?_ | refine Q_bl ?_ | refine Q_blr ?_ | refine Q_blx ?_ | refine Q_blo rfl ?_ | refine R_block ?_ | refine R_skip ?_ | refine R_exit ?_ | refine R_ret ?_ | refine I_true ?_ | refine I_false ?_ | refine N_exit ?_ | refine N_ret ?_
      | ((first | apply R_op | apply R_op0)
         · (first | (simp (maxDischargeDepth := 9) only [RA, Nat.reduceEqDiff, Nat.reduceLT, Nat.reduceLeDiff, Nat.reduceAdd, Nat.reduceSub, Nat.reduceMul, Nat.reduceDiv, Nat.reduceMod, Nat.reducePow, Nat.reduceBEq, Nat.reduceGT, reduceIte, hp8, rep8, T3, T5, T22, T30, T38, T48, cv32_8 Try.underlying22 Try.underlying5, K0_0, K0_3, K0_4, K0_49, K0_50, K0_51] <;> rfl) | ((repeat (first | (simp (maxDischargeDepth := 9) only [RA, Nat.reduceEqDiff, Nat.reduceLT, Nat.reduceLeDiff, Nat.reduceAdd, Nat.reduceSub, Nat.reduceMul, Nat.reduceDiv, Nat.reduceMod, Nat.reducePow, Nat.reduceBEq, Nat.reduceGT, reduceIte, hp8, rep8, T3, T5, T22, T30, T38, T48, cv32_8 Try.underlying22 Try.underlying5, K0_0, K0_3, K0_4, K0_49, K0_50, K0_51]; done) | simp (maxDischargeDepth := 9) only [RA, Nat.reduceEqDiff, Nat.reduceLT, Nat.reduceLeDiff, Nat.reduceAdd, Nat.reduceSub, Nat.reduceMul, Nat.reduceDiv, Nat.reduceMod, Nat.reducePow, Nat.reduceBEq, Nat.reduceGT, reduceIte, hp8, rep8, T3, T5, T22, T30, T38, T48, cv32_8 Try.underlying22 Try.underlying5, K0_0, K0_3, K0_4, K0_49, K0_50, K0_51] | simp (disch := first | assumption | omega) only [RV, hp8, rep8, T3, T5, T22, T30, T38, T48, cv32_8 Try.underlying22 Try.underlying5, K0_0, K0_3, K0_4, K0_49, K0_50, K0_51])) <;> rfl)))
      | (apply R_cond
         · (simp only [RE, Nat.reduceEqDiff, Nat.reduceLT, Nat.reduceLeDiff, Nat.reduceBEq, reduceIte, hp8, rep8, T3, T5, T22, T30, T38, T48, cv32_8 Try.underlying22 Try.underlying5, K0_0, K0_3, K0_4, K0_49, K0_50, K0_51] <;> rfl))
      | (apply R_grd
         · (simp only [yieldedA, RY, Nat.reduceEqDiff, reduceIte, hp8, rep8, T3, T5, T22, T30, T38, T48, cv32_8 Try.underlying22 Try.underlying5, K0_0, K0_3, K0_4, K0_49, K0_50, K0_51] <;> rfl)))
    have hsum : sumS b = (List.range 32).map (outB (stAt (padS b) (padN b.length / 64))) := sumS_eq b
    generalize stAt (padS b) (padN b.length / 64) = sF at w0 hsum
    refine W_loopK [3, 4, 6, 49, 50, 51] [h.nx, h3.nx] (fun i e4 h4 => e4 7 = iv i ∧ Fr h3.nx h3 h4) 32 (by decide) ?_ ?_ ?_
    · exact ⟨by (try simp only [List.map_cons, List.map_nil, RH, Nat.reduceAdd, Nat.reduceEqDiff, reduceIte, ev_tmp, ev_const, lit_iv, lit_w8, lit_w32, lit_w64, envOf0, envOf1, envOf2, envOf3, envOf4, envOf5, T3, T5, T22, T30, T38, T48, cv32_8 Try.underlying22 Try.underlying5, K0_0, K0_3, K0_4, K0_49, K0_50, K0_51]), by (repeat (first | assumption | exact Fr.refl _ _ | refine Fr.new ?_ ?_ _ _ _ | refine Fr.put ?_ ?_ _ | omega | (simp only [RH]; omega)))⟩
    · intro i hi e4 h4 hK hO hN ⟨j7, F4⟩
      simp only [List.map_cons, List.map_nil, List.cons.injEq, and_true, RH, Nat.reduceAdd, Nat.reduceEqDiff, reduceIte, envOf0, envOf1, envOf2, envOf3, envOf4, envOf5, c0, w0, K0_0, K0_3, K0_4, K0_49, K0_50, K0_51] at hK
      obtain ⟨K1_3, K1_4, K1_6, K1_49, K1_50, K1_51⟩ := hK
      simp only [List.map_cons, List.map_nil, List.cons.injEq, and_true, RH, Nat.reduceAdd, Nat.reduceEqDiff, reduceIte, envOf0, envOf1, envOf2, envOf3, envOf4, envOf5, c0, w0, K0_0, K0_3, K0_4, K0_49, K0_50, K0_51] at hO
      obtain ⟨O1_0, O1_1⟩ := hO
      try simp only [RH] at hN
      have hsl8 := St.l_length sF
      have h8 : i / 4 < 8 := by omega
      have hg : (sumS b).getD i 0#8 = ((sF.l.getD (i / 4) 0#32) >>> (24 - 8 * (i % 4))).setWidth 8 := by
        rw [hsum]
        simp [List.getD_eq_getElem?_getD, hi, outB]
      repeat (first
        | refine R_seq ?_ | refine R_region ?_ | refine R_nil ?_ | refine Q_seq ?_ | refine Q_norm ?_ | refine Q_seqr ?_ | refine Q_seqx ?_ | refine Q_bl ?_ | refine Q_blr ?_ | refine Q_blx ?_ | refine Q_blo rfl ?_ | refine R_block ?_ | refine R_skip ?_ | refine R_exit ?_ | refine R_ret ?_ | refine I_true ?_ | refine I_false ?_ | refine N_exit ?_ | refine N_ret ?_
        | (refine R_draw (by kernel_rfl) ?_)
        | ((first | apply R_op | apply R_op0)
           · (first | (simp (maxDischargeDepth := 9) only [RA, Nat.reduceEqDiff, Nat.reduceLT, Nat.reduceLeDiff, Nat.reduceAdd, Nat.reduceSub, Nat.reduceMul, Nat.reduceDiv, Nat.reduceMod, Nat.reducePow, Nat.reduceBEq, Nat.reduceGT, reduceIte, j7, hi, hsl, hsl8, h8, hg, w8_neq, T3, T5, T22, T30, T38, T48, cv32_8 Try.underlying22 Try.underlying5, K0_0, K0_3, K0_4, K0_49, K0_50, K0_51, K1_3, K1_4, K1_6, K1_49, K1_50, K1_51, O1_0, O1_1] <;> rfl) | ((repeat (first | (simp (maxDischargeDepth := 9) only [RA, Nat.reduceEqDiff, Nat.reduceLT, Nat.reduceLeDiff, Nat.reduceAdd, Nat.reduceSub, Nat.reduceMul, Nat.reduceDiv, Nat.reduceMod, Nat.reducePow, Nat.reduceBEq, Nat.reduceGT, reduceIte, j7, hi, hsl, hsl8, h8, hg, w8_neq, T3, T5, T22, T30, T38, T48, cv32_8 Try.underlying22 Try.underlying5, K0_0, K0_3, K0_4, K0_49, K0_50, K0_51, K1_3, K1_4, K1_6, K1_49, K1_50, K1_51, O1_0, O1_1]; done) | simp (maxDischargeDepth := 9) only [RA, Nat.reduceEqDiff, Nat.reduceLT, Nat.reduceLeDiff, Nat.reduceAdd, Nat.reduceSub, Nat.reduceMul, Nat.reduceDiv, Nat.reduceMod, Nat.reducePow, Nat.reduceBEq, Nat.reduceGT, reduceIte, j7, hi, hsl, hsl8, h8, hg, w8_neq, T3, T5, T22, T30, T38, T48, cv32_8 Try.underlying22 Try.underlying5, K0_0, K0_3, K0_4, K0_49, K0_50, K0_51, K1_3, K1_4, K1_6, K1_49, K1_50, K1_51, O1_0, O1_1] | simp (disch := first | assumption | omega) only [RV, j7, hi, hsl, hsl8, h8, hg, w8_neq, T3, T5, T22, T30, T38, T48, cv32_8 Try.underlying22 Try.underlying5, K0_0, K0_3, K0_4, K0_49, K0_50, K0_51, K1_3, K1_4, K1_6, K1_49, K1_50, K1_51, O1_0, O1_1])) <;> rfl)))
        | (apply R_cond
           · (simp only [RE, Nat.reduceEqDiff, Nat.reduceLT, Nat.reduceLeDiff, Nat.reduceBEq, reduceIte, j7, hi, hsl, hsl8, h8, hg, w8_neq, T3, T5, T22, T30, T38, T48, cv32_8 Try.underlying22 Try.underlying5, K0_0, K0_3, K0_4, K0_49, K0_50, K0_51, K1_3, K1_4, K1_6, K1_49, K1_50, K1_51, O1_0, O1_1] <;> rfl))
        | (apply R_grd
           · (simp only [yieldedA, RY, Nat.reduceEqDiff, reduceIte, j7, hi, hsl, hsl8, h8, hg, w8_neq, T3, T5, T22, T30, T38, T48, cv32_8 Try.underlying22 Try.underlying5, K0_0, K0_3, K0_4, K0_49, K0_50, K0_51, K1_3, K1_4, K1_6, K1_49, K1_50, K1_51, O1_0, O1_1] <;> rfl)))
      refine ⟨rfl, by first | rfl | simp only [List.map_cons, List.map_nil, RH, Nat.reduceAdd, Nat.reduceEqDiff, reduceIte, T3, T5, T22, T30, T38, T48, cv32_8 Try.underlying22 Try.underlying5, K0_0, K0_3, K0_4, K0_49, K0_50, K0_51, K1_3, K1_4, K1_6, K1_49, K1_50, K1_51, O1_0, O1_1], by first | rfl | simp only [List.map_cons, List.map_nil, RH, Nat.reduceAdd, Nat.reduceEqDiff, reduceIte, T3, T5, T22, T30, T38, T48, cv32_8 Try.underlying22 Try.underlying5, K0_0, K0_3, K0_4, K0_49, K0_50, K0_51, K1_3, K1_4, K1_6, K1_49, K1_50, K1_51, O1_0, O1_1], by first | (simp only [RH, T3, T5, T22, T30, T38, T48, cv32_8 Try.underlying22 Try.underlying5, K0_0, K0_3, K0_4, K0_49, K0_50, K0_51, K1_3, K1_4, K1_6, K1_49, K1_50, K1_51, O1_0, O1_1]; done) | ((try simp only [RH, T3, T5, T22, T30, T38, T48, cv32_8 Try.underlying22 Try.underlying5, K0_0, K0_3, K0_4, K0_49, K0_50, K0_51, K1_3, K1_4, K1_6, K1_49, K1_50, K1_51, O1_0, O1_1]); omega), ?_⟩
      refine ⟨by (try simp only [List.map_cons, List.map_nil, RH, Nat.reduceAdd, Nat.reduceEqDiff, reduceIte, ev_tmp, ev_const, lit_iv, lit_w8, lit_w32, lit_w64, envOf0, envOf1, envOf2, envOf3, envOf4, envOf5, T3, T5, T22, T30, T38, T48, cv32_8 Try.underlying22 Try.underlying5, K0_0, K0_3, K0_4, K0_49, K0_50, K0_51, K1_3, K1_4, K1_6, K1_49, K1_50, K1_51, O1_0, O1_1]), F4⟩
    · intro e4 h4 hK hO hN ⟨j7, F4⟩
      simp only [List.map_cons, List.map_nil, List.cons.injEq, and_true, RH, Nat.reduceAdd, Nat.reduceEqDiff, reduceIte, envOf0, envOf1, envOf2, envOf3, envOf4, envOf5, c0, w0, K0_0, K0_3, K0_4, K0_49, K0_50, K0_51] at hK
      obtain ⟨K1_3, K1_4, K1_6, K1_49, K1_50, K1_51⟩ := hK
      simp only [List.map_cons, List.map_nil, List.cons.injEq, and_true, RH, Nat.reduceAdd, Nat.reduceEqDiff, reduceIte, envOf0, envOf1, envOf2, envOf3, envOf4, envOf5, c0, w0, K0_0, K0_3, K0_4, K0_49, K0_50, K0_51] at hO
      obtain ⟨O1_0, O1_1⟩ := hO
      try simp only [RH] at hN
      have b14 : By h4 v1 (padS b) := b13.fr0 F4
      have h64 : 64 ≤ (padS b).length := by omega
      repeat (first
        | refine R_seq ?_ | refine R_region ?_ | refine R_nil ?_ | refine Q_seq ?_ | refine Q_norm ?_ | refine Q_seqr ?_ | refine Q_seqx ?_ | refine Q_bl ?_ | refine Q_blr ?_ | refine Q_blx ?_ | refine Q_blo rfl ?_ | refine R_block ?_ | refine R_skip ?_ | refine R_exit ?_ | refine R_ret ?_ | refine I_true ?_ | refine I_false ?_ | refine N_exit ?_ | refine N_ret ?_
        | ((first | apply R_op | apply R_op0)
           · (first | (simp (maxDischargeDepth := 9) only [RA, Nat.reduceEqDiff, Nat.reduceLT, Nat.reduceLeDiff, Nat.reduceAdd, Nat.reduceSub, Nat.reduceMul, Nat.reduceDiv, Nat.reduceMod, Nat.reducePow, Nat.reduceBEq, Nat.reduceGT, reduceIte, j7, live51 3, S38len b14, h64, T3, T5, T22, T30, T38, T48, cv32_8 Try.underlying22 Try.underlying5, K0_0, K0_3, K0_4, K0_49, K0_50, K0_51, K1_3, K1_4, K1_6, K1_49, K1_50, K1_51, O1_0, O1_1] <;> rfl) | ((repeat (first | (simp (maxDischargeDepth := 9) only [RA, Nat.reduceEqDiff, Nat.reduceLT, Nat.reduceLeDiff, Nat.reduceAdd, Nat.reduceSub, Nat.reduceMul, Nat.reduceDiv, Nat.reduceMod, Nat.reducePow, Nat.reduceBEq, Nat.reduceGT, reduceIte, j7, live51 3, S38len b14, h64, T3, T5, T22, T30, T38, T48, cv32_8 Try.underlying22 Try.underlying5, K0_0, K0_3, K0_4, K0_49, K0_50, K0_51, K1_3, K1_4, K1_6, K1_49, K1_50, K1_51, O1_0, O1_1]; done) | simp (maxDischargeDepth := 9) only [RA, Nat.reduceEqDiff, Nat.reduceLT, Nat.reduceLeDiff, Nat.reduceAdd, Nat.reduceSub, Nat.reduceMul, Nat.reduceDiv, Nat.reduceMod, Nat.reducePow, Nat.reduceBEq, Nat.reduceGT, reduceIte, j7, live51 3, S38len b14, h64, T3, T5, T22, T30, T38, T48, cv32_8 Try.underlying22 Try.underlying5, K0_0, K0_3, K0_4, K0_49, K0_50, K0_51, K1_3, K1_4, K1_6, K1_49, K1_50, K1_51, O1_0, O1_1] | simp (disch := first | assumption | omega) only [RV, j7, live51 3, S38len b14, h64, T3, T5, T22, T30, T38, T48, cv32_8 Try.underlying22 Try.underlying5, K0_0, K0_3, K0_4, K0_49, K0_50, K0_51, K1_3, K1_4, K1_6, K1_49, K1_50, K1_51, O1_0, O1_1])) <;> rfl)))
        | (apply R_cond
           · (simp only [RE, Nat.reduceEqDiff, Nat.reduceLT, Nat.reduceLeDiff, Nat.reduceBEq, reduceIte, j7, live51 3, S38len b14, h64, T3, T5, T22, T30, T38, T48, cv32_8 Try.underlying22 Try.underlying5, K0_0, K0_3, K0_4, K0_49, K0_50, K0_51, K1_3, K1_4, K1_6, K1_49, K1_50, K1_51, O1_0, O1_1] <;> rfl))
        | (apply R_grd
           · (simp only [yieldedA, RY, Nat.reduceEqDiff, reduceIte, j7, live51 3, S38len b14, h64, T3, T5, T22, T30, T38, T48, cv32_8 Try.underlying22 Try.underlying5, K0_0, K0_3, K0_4, K0_49, K0_50, K0_51, K1_3, K1_4, K1_6, K1_49, K1_50, K1_51, O1_0, O1_1] <;> rfl)))
      (first | refine ⟨.inr rfl, _, rfl, ?_⟩ | refine ⟨.inl rfl, _, rfl, ?_⟩) <;> simp only [packR, upd_apply, Nat.reduceEqDiff, if_true, if_false, reduceIte]
set_option maxRecDepth 20000 in
set_option maxHeartbeats 8000000 in
theorem law13 (h : Heap) (v : Value) (b : List (BitVec 8)) (hb : By h v b) : ∃ v1 h1, evF (cfg0 Try.prog) 12 13 [v] h = some (.ok v1, h1) ∧ v1 = .bool true := by
  rw [evF_eq Try.func13 rfl]
  apply evEnd_of_W
  simp only [Try.f13]
  obtain ⟨v2, e2, b2, r2⟩ := few50 10 _ v b 600 hb
  repeat (first
    | refine R_seq ?_ | refine R_region ?_ | refine R_nil ?_ | refine Q_seq ?_ | refine Q_norm ?_ | refine Q_seqr ?_ | refine Q_seqx ?_ | refine Q_bl ?_ | refine Q_blr ?_ | refine Q_blx ?_ | refine Q_blo rfl ?_ | refine R_block ?_ | refine R_skip ?_ | refine R_exit ?_ | refine R_ret ?_ | refine I_true ?_ | refine I_false ?_ | refine N_exit ?_ | refine N_ret ?_
    | (refine R_draw (by kernel_rfl) ?_)
    | ((first | apply R_op | apply R_op0)
       · (first | (simp (maxDischargeDepth := 9) only [RA, Nat.reduceEqDiff, Nat.reduceLT, Nat.reduceLeDiff, Nat.reduceAdd, Nat.reduceSub, Nat.reduceMul, Nat.reduceDiv, Nat.reduceMod, Nat.reducePow, Nat.reduceBEq, Nat.reduceGT, reduceIte, e2, T3, T5, T9, T38, cv8_i Try.underlying5 Try.underlying3] <;> rfl) | ((repeat (first | (simp (maxDischargeDepth := 9) only [RA, Nat.reduceEqDiff, Nat.reduceLT, Nat.reduceLeDiff, Nat.reduceAdd, Nat.reduceSub, Nat.reduceMul, Nat.reduceDiv, Nat.reduceMod, Nat.reducePow, Nat.reduceBEq, Nat.reduceGT, reduceIte, e2, T3, T5, T9, T38, cv8_i Try.underlying5 Try.underlying3]; done) | simp (maxDischargeDepth := 9) only [RA, Nat.reduceEqDiff, Nat.reduceLT, Nat.reduceLeDiff, Nat.reduceAdd, Nat.reduceSub, Nat.reduceMul, Nat.reduceDiv, Nat.reduceMod, Nat.reducePow, Nat.reduceBEq, Nat.reduceGT, reduceIte, e2, T3, T5, T9, T38, cv8_i Try.underlying5 Try.underlying3] | simp (disch := first | assumption | omega) only [RV, e2, T3, T5, T9, T38, cv8_i Try.underlying5 Try.underlying3])) <;> rfl)))
    | (apply R_cond
       · (simp only [RE, Nat.reduceEqDiff, Nat.reduceLT, Nat.reduceLeDiff, Nat.reduceBEq, reduceIte, e2, T3, T5, T9, T38, cv8_i Try.underlying5 Try.underlying3] <;> rfl))
    | (apply R_grd
       · (simp only [yieldedA, RY, Nat.reduceEqDiff, reduceIte, e2, T3, T5, T9, T38, cv8_i Try.underlying5 Try.underlying3] <;> rfl)))
  have hbl : (b.take 600).length ≤ 600 := by simp; omega
  generalize b.take 600 = b at b2 hbl
  have hNge := padN_ge b.length
  have hNle : padN b.length ≤ b.length + 72 := by unfold padN; omega
  have hN64 : padN b.length % 64 = 0 := by unfold padN; omega
  have hpl := padS_length b
  refine R_fn ?_ (pad54 10 h v2 b b2 (by omega)) ?_
  · rfl
  intro v3 h3 ⟨own3, F3⟩
  have b23 : By h3 v2 b := b2.fr0 F3
  have b33 : By h3 v3 (padS b) := own3.sl
  have t1 : ¬ padN b.length < b.length + 9 := by omega
  have t2 : ¬ b.length + 72 < padN b.length := by omega
  have s1 := S38h (hh := b.length) b33 fr_refl (by omega)
  have s2 := By.subh (mx := none) (hh := b.length) b33 (by omega) (fun m hm => nomatch hm)
  rw [padS_take] at s2
  have t3 : b.length < (padS b).length := by omega
  have t4 := padS_one b
  have t5 : b.length < padN b.length := by omega
  repeat (first
    | refine R_seq ?_ | refine R_region ?_ | refine R_nil ?_ | refine Q_seq ?_ | refine Q_norm ?_ | refine Q_seqr ?_ | refine Q_seqx ?_ | refine Q_bl ?_ | refine Q_blr ?_ | refine Q_blx ?_ | refine Q_blo rfl ?_ | refine R_block ?_ | refine R_skip ?_ | refine R_exit ?_ | refine R_ret ?_ | refine I_true ?_ | refine I_false ?_ | refine N_exit ?_ | refine N_ret ?_
    | (refine R_draw (by kernel_rfl) ?_)
    | ((first | apply R_op | apply R_op0)
       · (first | (simp (maxDischargeDepth := 9) only [RA, Nat.reduceEqDiff, Nat.reduceLT, Nat.reduceLeDiff, Nat.reduceAdd, Nat.reduceSub, Nat.reduceMul, Nat.reduceDiv, Nat.reduceMod, Nat.reducePow, Nat.reduceBEq, Nat.reduceGT, reduceIte, S38len b33, S38len b23, hpl, hN64, t1, t2, s1, S38str s2, S38str b23, str_neq, RF, S38ia b33, S38ld b33, t3, t4, t5, w8_neq, T3, T5, T9, T38, cv8_i Try.underlying5 Try.underlying3] <;> rfl) | ((repeat (first | (simp (maxDischargeDepth := 9) only [RA, Nat.reduceEqDiff, Nat.reduceLT, Nat.reduceLeDiff, Nat.reduceAdd, Nat.reduceSub, Nat.reduceMul, Nat.reduceDiv, Nat.reduceMod, Nat.reducePow, Nat.reduceBEq, Nat.reduceGT, reduceIte, S38len b33, S38len b23, hpl, hN64, t1, t2, s1, S38str s2, S38str b23, str_neq, RF, S38ia b33, S38ld b33, t3, t4, t5, w8_neq, T3, T5, T9, T38, cv8_i Try.underlying5 Try.underlying3]; done) | simp (maxDischargeDepth := 9) only [RA, Nat.reduceEqDiff, Nat.reduceLT, Nat.reduceLeDiff, Nat.reduceAdd, Nat.reduceSub, Nat.reduceMul, Nat.reduceDiv, Nat.reduceMod, Nat.reducePow, Nat.reduceBEq, Nat.reduceGT, reduceIte, S38len b33, S38len b23, hpl, hN64, t1, t2, s1, S38str s2, S38str b23, str_neq, RF, S38ia b33, S38ld b33, t3, t4, t5, w8_neq, T3, T5, T9, T38, cv8_i Try.underlying5 Try.underlying3] | simp (disch := first | assumption | omega) only [RV, S38len b33, S38len b23, hpl, hN64, t1, t2, s1, S38str s2, S38str b23, str_neq, RF, S38ia b33, S38ld b33, t3, t4, t5, w8_neq, T3, T5, T9, T38, cv8_i Try.underlying5 Try.underlying3])) <;> rfl)))
    | (apply R_cond
       · (simp only [RE, Nat.reduceEqDiff, Nat.reduceLT, Nat.reduceLeDiff, Nat.reduceBEq, reduceIte, S38len b33, S38len b23, hpl, hN64, t1, t2, s1, S38str s2, S38str b23, str_neq, RF, S38ia b33, S38ld b33, t3, t4, t5, w8_neq, T3, T5, T9, T38, cv8_i Try.underlying5 Try.underlying3] <;> rfl))
    | (apply R_grd
       · (simp only [yieldedA, RY, Nat.reduceEqDiff, reduceIte, S38len b33, S38len b23, hpl, hN64, t1, t2, s1, S38str s2, S38str b23, str_neq, RF, S38ia b33, S38ld b33, t3, t4, t5, w8_neq, T3, T5, T9, T38, cv8_i Try.underlying5 Try.underlying3] <;> rfl)))
  refine W_loopK [0, 3, 4, 80, 81, 82, 83, 84] [] (fun k e4 h4 => e4 5 = iv (b.length + 1 + k) ∧ h4 = h3) (padN b.length - 8 - (b.length + 1)) (by omega) ?_ ?_ ?_
  · exact ⟨by (try simp only [List.map_cons, List.map_nil, RH, Nat.reduceAdd, Nat.reduceEqDiff, reduceIte, ev_tmp, ev_const, lit_iv, lit_w8, lit_w32, lit_w64, envOf0, envOf1, envOf2, envOf3, envOf4, envOf5, T3, T5, T9, T38, cv8_i Try.underlying5 Try.underlying3]), rfl⟩
  · intro k hk e4 h4 hK hO hN ⟨j5, hh4⟩
    subst hh4
    simp only [List.map_cons, List.map_nil, List.cons.injEq, and_true, RH, Nat.reduceAdd, Nat.reduceEqDiff, reduceIte, envOf0, envOf1, envOf2, envOf3, envOf4, envOf5] at hK
    obtain ⟨K0_0, K0_3, K0_4, K0_80, K0_81, K0_82, K0_83, K0_84⟩ := hK
    try simp only [RH] at hN
    have hlt : b.length + 1 + k < padN b.length - 8 := by omega
    have hlt2 : b.length + 1 + k < (padS b).length := by omega
    have hz := padS_mid b (p := b.length + 1 + k) (by omega) hlt
    repeat (first
      | refine R_seq ?_ | refine R_region ?_ | refine R_nil ?_ | refine Q_seq ?_ | refine Q_norm ?_ | refine Q_seqr ?_ | refine Q_seqx ?_ | refine Q_bl ?_ | refine Q_blr ?_ | refine Q_blx ?_ | refine Q_blo rfl ?_ | refine R_block ?_ | refine R_skip ?_ | refine R_exit ?_ | refine R_ret ?_ | refine I_true ?_ | refine I_false ?_ | refine N_exit ?_ | refine N_ret ?_
      | (refine R_draw (by kernel_rfl) ?_)
      | ((first | apply R_op | apply R_op0)
         · (first | (simp (maxDischargeDepth := 9) only [RA, Nat.reduceEqDiff, Nat.reduceLT, Nat.reduceLeDiff, Nat.reduceAdd, Nat.reduceSub, Nat.reduceMul, Nat.reduceDiv, Nat.reduceMod, Nat.reducePow, Nat.reduceBEq, Nat.reduceGT, reduceIte, j5, hlt, hlt2, hz, S38ia b33, S38ld b33, RF, iv_sub (padN b.length) 8 (by omega) (by omega), w8_neq, T3, T5, T9, T38, cv8_i Try.underlying5 Try.underlying3, K0_0, K0_3, K0_4, K0_80, K0_81, K0_82, K0_83, K0_84] <;> rfl) | ((repeat (first | (simp (maxDischargeDepth := 9) only [RA, Nat.reduceEqDiff, Nat.reduceLT, Nat.reduceLeDiff, Nat.reduceAdd, Nat.reduceSub, Nat.reduceMul, Nat.reduceDiv, Nat.reduceMod, Nat.reducePow, Nat.reduceBEq, Nat.reduceGT, reduceIte, j5, hlt, hlt2, hz, S38ia b33, S38ld b33, RF, iv_sub (padN b.length) 8 (by omega) (by omega), w8_neq, T3, T5, T9, T38, cv8_i Try.underlying5 Try.underlying3, K0_0, K0_3, K0_4, K0_80, K0_81, K0_82, K0_83, K0_84]; done) | simp (maxDischargeDepth := 9) only [RA, Nat.reduceEqDiff, Nat.reduceLT, Nat.reduceLeDiff, Nat.reduceAdd, Nat.reduceSub, Nat.reduceMul, Nat.reduceDiv, Nat.reduceMod, Nat.reducePow, Nat.reduceBEq, Nat.reduceGT, reduceIte, j5, hlt, hlt2, hz, S38ia b33, S38ld b33, RF, iv_sub (padN b.length) 8 (by omega) (by omega), w8_neq, T3, T5, T9, T38, cv8_i Try.underlying5 Try.underlying3, K0_0, K0_3, K0_4, K0_80, K0_81, K0_82, K0_83, K0_84] | simp (disch := first | assumption | omega) only [RV, j5, hlt, hlt2, hz, S38ia b33, S38ld b33, RF, iv_sub (padN b.length) 8 (by omega) (by omega), w8_neq, T3, T5, T9, T38, cv8_i Try.underlying5 Try.underlying3, K0_0, K0_3, K0_4, K0_80, K0_81, K0_82, K0_83, K0_84])) <;> rfl)))
      | (apply R_cond
         · (simp only [RE, Nat.reduceEqDiff, Nat.reduceLT, Nat.reduceLeDiff, Nat.reduceBEq, reduceIte, j5, hlt, hlt2, hz, S38ia b33, S38ld b33, RF, iv_sub (padN b.length) 8 (by omega) (by omega), w8_neq, T3, T5, T9, T38, cv8_i Try.underlying5 Try.underlying3, K0_0, K0_3, K0_4, K0_80, K0_81, K0_82, K0_83, K0_84] <;> rfl))
      | (apply R_grd
         · (simp only [yieldedA, RY, Nat.reduceEqDiff, reduceIte, j5, hlt, hlt2, hz, S38ia b33, S38ld b33, RF, iv_sub (padN b.length) 8 (by omega) (by omega), w8_neq, T3, T5, T9, T38, cv8_i Try.underlying5 Try.underlying3, K0_0, K0_3, K0_4, K0_80, K0_81, K0_82, K0_83, K0_84] <;> rfl)))
    refine ⟨rfl, by first | rfl | simp only [List.map_cons, List.map_nil, RH, Nat.reduceAdd, Nat.reduceEqDiff, reduceIte, T3, T5, T9, T38, cv8_i Try.underlying5 Try.underlying3, K0_0, K0_3, K0_4, K0_80, K0_81, K0_82, K0_83, K0_84], by first | rfl | simp only [List.map_cons, List.map_nil, RH, Nat.reduceAdd, Nat.reduceEqDiff, reduceIte, T3, T5, T9, T38, cv8_i Try.underlying5 Try.underlying3, K0_0, K0_3, K0_4, K0_80, K0_81, K0_82, K0_83, K0_84], by first | (simp only [RH, T3, T5, T9, T38, cv8_i Try.underlying5 Try.underlying3, K0_0, K0_3, K0_4, K0_80, K0_81, K0_82, K0_83, K0_84]; done) | ((try simp only [RH, T3, T5, T9, T38, cv8_i Try.underlying5 Try.underlying3, K0_0, K0_3, K0_4, K0_80, K0_81, K0_82, K0_83, K0_84]); omega), ?_⟩
    exact ⟨by (try simp only [List.map_cons, List.map_nil, RH, Nat.reduceAdd, Nat.reduceEqDiff, reduceIte, ev_tmp, ev_const, lit_iv, lit_w8, lit_w32, lit_w64, envOf0, envOf1, envOf2, envOf3, envOf4, envOf5, Nat.add_assoc, T3, T5, T9, T38, cv8_i Try.underlying5 Try.underlying3, K0_0, K0_3, K0_4, K0_80, K0_81, K0_82, K0_83, K0_84]), rfl⟩
  · intro e4 h4 hK hO hN ⟨j5, hh4⟩
    subst hh4
    simp only [List.map_cons, List.map_nil, List.cons.injEq, and_true, RH, Nat.reduceAdd, Nat.reduceEqDiff, reduceIte, envOf0, envOf1, envOf2, envOf3, envOf4, envOf5] at hK
    obtain ⟨K0_0, K0_3, K0_4, K0_80, K0_81, K0_82, K0_83, K0_84⟩ := hK
    try simp only [RH] at hN
    have hlt : ¬ b.length + 1 + (padN b.length - 8 - (b.length + 1)) < padN b.length - 8 := by omega
    repeat (first
      | refine R_seq ?_ | refine R_region ?_ | refine R_nil ?_ | refine Q_seq ?_ | refine Q_norm ?_ | refine Q_seqr ?_ | refine Q_seqx ?_ | refine Q_bl ?_ | refine Q_blr ?_ | refine Q_blx ?_ | refine Q_blo rfl ?_ | refine R_block ?_ | refine R_skip ?_ | refine R_exit ?_ | refine R_ret ?_ | refine I_true ?_ | refine I_false ?_ | refine N_exit ?_ | refine N_ret ?_
      | (refine R_draw (by kernel_rfl) ?_)
      | ((first | apply R_op | apply R_op0)
         · (first | (simp (maxDischargeDepth := 9) only [RA, Nat.reduceEqDiff, Nat.reduceLT, Nat.reduceLeDiff, Nat.reduceAdd, Nat.reduceSub, Nat.reduceMul, Nat.reduceDiv, Nat.reduceMod, Nat.reducePow, Nat.reduceBEq, Nat.reduceGT, reduceIte, j5, hlt, iv_sub (padN b.length) 8 (by omega) (by omega), T3, T5, T9, T38, cv8_i Try.underlying5 Try.underlying3, K0_0, K0_3, K0_4, K0_80, K0_81, K0_82, K0_83, K0_84] <;> rfl) | ((repeat (first | (simp (maxDischargeDepth := 9) only [RA, Nat.reduceEqDiff, Nat.reduceLT, Nat.reduceLeDiff, Nat.reduceAdd, Nat.reduceSub, Nat.reduceMul, Nat.reduceDiv, Nat.reduceMod, Nat.reducePow, Nat.reduceBEq, Nat.reduceGT, reduceIte, j5, hlt, iv_sub (padN b.length) 8 (by omega) (by omega), T3, T5, T9, T38, cv8_i Try.underlying5 Try.underlying3, K0_0, K0_3, K0_4, K0_80, K0_81, K0_82, K0_83, K0_84]; done) | simp (maxDischargeDepth := 9) only [RA, Nat.reduceEqDiff, Nat.reduceLT, Nat.reduceLeDiff, Nat.reduceAdd, Nat.reduceSub, Nat.reduceMul, Nat.reduceDiv, Nat.reduceMod, Nat.reducePow, Nat.reduceBEq, Nat.reduceGT, reduceIte, j5, hlt, iv_sub (padN b.length) 8 (by omega) (by omega), T3, T5, T9, T38, cv8_i Try.underlying5 Try.underlying3, K0_0, K0_3, K0_4, K0_80, K0_81, K0_82, K0_83, K0_84] | simp (disch := first | assumption | omega) only [RV, j5, hlt, iv_sub (padN b.length) 8 (by omega) (by omega), T3, T5, T9, T38, cv8_i Try.underlying5 Try.underlying3, K0_0, K0_3, K0_4, K0_80, K0_81, K0_82, K0_83, K0_84])) <;> rfl)))
      | (apply R_cond
         · (simp only [RE, Nat.reduceEqDiff, Nat.reduceLT, Nat.reduceLeDiff, Nat.reduceBEq, reduceIte, j5, hlt, iv_sub (padN b.length) 8 (by omega) (by omega), T3, T5, T9, T38, cv8_i Try.underlying5 Try.underlying3, K0_0, K0_3, K0_4, K0_80, K0_81, K0_82, K0_83, K0_84] <;> rfl))
      | (apply R_grd
         · (simp only [yieldedA, RY, Nat.reduceEqDiff, reduceIte, j5, hlt, iv_sub (padN b.length) 8 (by omega) (by omega), T3, T5, T9, T38, cv8_i Try.underlying5 Try.underlying3, K0_0, K0_3, K0_4, K0_80, K0_81, K0_82, K0_83, K0_84] <;> rfl)))
    refine W_loopK [0, 3, 4, 80, 81, 82, 83, 84] [] (fun k e5 h5 => e5 7 = iv (padN b.length - 8 + k) ∧ e5 6 = iv (8 * b.length / 2 ^ (8 * (8 - k))) ∧ h5 = h4) 8 (by decide) ?_ ?_ ?_
    · refine ⟨by (try simp only [List.map_cons, List.map_nil, RH, Nat.reduceAdd, Nat.reduceEqDiff, reduceIte, ev_tmp, ev_const, lit_iv, lit_w8, lit_w32, lit_w64, envOf0, envOf1, envOf2, envOf3, envOf4, envOf5, Nat.add_zero, T3, T5, T9, T38, cv8_i Try.underlying5 Try.underlying3, K0_0, K0_3, K0_4, K0_80, K0_81, K0_82, K0_83, K0_84]), ?_, rfl⟩
      (try simp only [List.map_cons, List.map_nil, RH, Nat.reduceAdd, Nat.reduceEqDiff, reduceIte, ev_tmp, ev_const, lit_iv, lit_w8, lit_w32, lit_w64, envOf0, envOf1, envOf2, envOf3, envOf4, envOf5, T3, T5, T9, T38, cv8_i Try.underlying5 Try.underlying3, K0_0, K0_3, K0_4, K0_80, K0_81, K0_82, K0_83, K0_84])
      rw [Nat.div_eq_of_lt (by omega)]
    · intro k hk e5 h5 hK hO hN ⟨j7, j6, hh5⟩
      subst hh5
      simp only [List.map_cons, List.map_nil, List.cons.injEq, and_true, RH, Nat.reduceAdd, Nat.reduceEqDiff, reduceIte, envOf0, envOf1, envOf2, envOf3, envOf4, envOf5, K0_0, K0_3, K0_4, K0_80, K0_81, K0_82, K0_83, K0_84] at hK
      obtain ⟨K1_0, K1_3, K1_4, K1_80, K1_81, K1_82, K1_83, K1_84⟩ := hK
      try simp only [RH] at hN
      have hlt : padN b.length - 8 + k < padN b.length := by omega
      have hlt2 : padN b.length - 8 + k < (padS b).length := by omega
      have hz := padS_last b hk
      have hb1 : 8 * b.length / 2 ^ (8 * (8 - k)) ≤ 8 * b.length := Nat.div_le_self _ _
      have hb2 := (BitVec.ofNat 8 (8 * b.length / 2 ^ (8 * (7 - k)))).isLt
      have hb3 : (BitVec.ofNat 8 (8 * b.length / 2 ^ (8 * (7 - k)))).toNat < 9223372036854775808 := by omega
      have hacc := acc_step (8 * b.length) hk
      repeat (first
        | refine R_seq ?_ | refine R_region ?_ | refine R_nil ?_ | refine Q_seq ?_ | refine Q_norm ?_ | refine Q_seqr ?_ | refine Q_seqx ?_ | refine Q_bl ?_ | refine Q_blr ?_ | refine Q_blx ?_ | refine Q_blo rfl ?_ | refine R_block ?_ | refine R_skip ?_ | refine R_exit ?_ | refine R_ret ?_ | refine I_true ?_ | refine I_false ?_ | refine N_exit ?_ | refine N_ret ?_
        | (refine R_draw (by kernel_rfl) ?_)
        | ((first | apply R_op | apply R_op0)
           · (first | (simp (maxDischargeDepth := 9) only [RA, Nat.reduceEqDiff, Nat.reduceLT, Nat.reduceLeDiff, Nat.reduceAdd, Nat.reduceSub, Nat.reduceMul, Nat.reduceDiv, Nat.reduceMod, Nat.reducePow, Nat.reduceBEq, Nat.reduceGT, reduceIte, j7, j6, hlt, hlt2, hz, S38ia b33, S38ld b33, RF, hb3, hacc, cv8_i Try.underlying5 Try.underlying3, T3, T5, T9, T38, K0_0, K0_3, K0_4, K0_80, K0_81, K0_82, K0_83, K0_84, K1_0, K1_3, K1_4, K1_80, K1_81, K1_82, K1_83, K1_84] <;> rfl) | ((repeat (first | (simp (maxDischargeDepth := 9) only [RA, Nat.reduceEqDiff, Nat.reduceLT, Nat.reduceLeDiff, Nat.reduceAdd, Nat.reduceSub, Nat.reduceMul, Nat.reduceDiv, Nat.reduceMod, Nat.reducePow, Nat.reduceBEq, Nat.reduceGT, reduceIte, j7, j6, hlt, hlt2, hz, S38ia b33, S38ld b33, RF, hb3, hacc, cv8_i Try.underlying5 Try.underlying3, T3, T5, T9, T38, K0_0, K0_3, K0_4, K0_80, K0_81, K0_82, K0_83, K0_84, K1_0, K1_3, K1_4, K1_80, K1_81, K1_82, K1_83, K1_84]; done) | simp (maxDischargeDepth := 9) only [RA, Nat.reduceEqDiff, Nat.reduceLT, Nat.reduceLeDiff, Nat.reduceAdd, Nat.reduceSub, Nat.reduceMul, Nat.reduceDiv, Nat.reduceMod, Nat.reducePow, Nat.reduceBEq, Nat.reduceGT, reduceIte, j7, j6, hlt, hlt2, hz, S38ia b33, S38ld b33, RF, hb3, hacc, cv8_i Try.underlying5 Try.underlying3, T3, T5, T9, T38, K0_0, K0_3, K0_4, K0_80, K0_81, K0_82, K0_83, K0_84, K1_0, K1_3, K1_4, K1_80, K1_81, K1_82, K1_83, K1_84] | simp (disch := first | assumption | omega) only [RV, j7, j6, hlt, hlt2, hz, S38ia b33, S38ld b33, RF, hb3, hacc, cv8_i Try.underlying5 Try.underlying3, T3, T5, T9, T38, K0_0, K0_3, K0_4, K0_80, K0_81, K0_82, K0_83, K0_84, K1_0, K1_3, K1_4, K1_80, K1_81, K1_82, K1_83, K1_84])) <;> rfl)))
        | (apply R_cond
           · (simp only [RE, Nat.reduceEqDiff, Nat.reduceLT, Nat.reduceLeDiff, Nat.reduceBEq, reduceIte, j7, j6, hlt, hlt2, hz, S38ia b33, S38ld b33, RF, hb3, hacc, cv8_i Try.underlying5 Try.underlying3, T3, T5, T9, T38, K0_0, K0_3, K0_4, K0_80, K0_81, K0_82, K0_83, K0_84, K1_0, K1_3, K1_4, K1_80, K1_81, K1_82, K1_83, K1_84] <;> rfl))
        | (apply R_grd
           · (simp only [yieldedA, RY, Nat.reduceEqDiff, reduceIte, j7, j6, hlt, hlt2, hz, S38ia b33, S38ld b33, RF, hb3, hacc, cv8_i Try.underlying5 Try.underlying3, T3, T5, T9, T38, K0_0, K0_3, K0_4, K0_80, K0_81, K0_82, K0_83, K0_84, K1_0, K1_3, K1_4, K1_80, K1_81, K1_82, K1_83, K1_84] <;> rfl)))
      refine ⟨rfl, by first | rfl | simp only [List.map_cons, List.map_nil, RH, Nat.reduceAdd, Nat.reduceEqDiff, reduceIte, T3, T5, T9, T38, cv8_i Try.underlying5 Try.underlying3, K0_0, K0_3, K0_4, K0_80, K0_81, K0_82, K0_83, K0_84, K1_0, K1_3, K1_4, K1_80, K1_81, K1_82, K1_83, K1_84], by first | rfl | simp only [List.map_cons, List.map_nil, RH, Nat.reduceAdd, Nat.reduceEqDiff, reduceIte, T3, T5, T9, T38, cv8_i Try.underlying5 Try.underlying3, K0_0, K0_3, K0_4, K0_80, K0_81, K0_82, K0_83, K0_84, K1_0, K1_3, K1_4, K1_80, K1_81, K1_82, K1_83, K1_84], by first | (simp only [RH, T3, T5, T9, T38, cv8_i Try.underlying5 Try.underlying3, K0_0, K0_3, K0_4, K0_80, K0_81, K0_82, K0_83, K0_84, K1_0, K1_3, K1_4, K1_80, K1_81, K1_82, K1_83, K1_84]; done) | ((try simp only [RH, T3, T5, T9, T38, cv8_i Try.underlying5 Try.underlying3, K0_0, K0_3, K0_4, K0_80, K0_81, K0_82, K0_83, K0_84, K1_0, K1_3, K1_4, K1_80, K1_81, K1_82, K1_83, K1_84]); omega), ?_⟩
      exact ⟨by (try simp only [List.map_cons, List.map_nil, RH, Nat.reduceAdd, Nat.reduceEqDiff, reduceIte, ev_tmp, ev_const, lit_iv, lit_w8, lit_w32, lit_w64, envOf0, envOf1, envOf2, envOf3, envOf4, envOf5, Nat.add_assoc, T3, T5, T9, T38, cv8_i Try.underlying5 Try.underlying3, K0_0, K0_3, K0_4, K0_80, K0_81, K0_82, K0_83, K0_84, K1_0, K1_3, K1_4, K1_80, K1_81, K1_82, K1_83, K1_84]), by (try simp only [List.map_cons, List.map_nil, RH, Nat.reduceAdd, Nat.reduceEqDiff, reduceIte, ev_tmp, ev_const, lit_iv, lit_w8, lit_w32, lit_w64, envOf0, envOf1, envOf2, envOf3, envOf4, envOf5, hacc, T3, T5, T9, T38, cv8_i Try.underlying5 Try.underlying3, K0_0, K0_3, K0_4, K0_80, K0_81, K0_82, K0_83, K0_84, K1_0, K1_3, K1_4, K1_80, K1_81, K1_82, K1_83, K1_84]), rfl⟩
    · intro e5 h5 hK hO hN ⟨j7, j6, hh5⟩
      subst hh5
      simp only [List.map_cons, List.map_nil, List.cons.injEq, and_true, RH, Nat.reduceAdd, Nat.reduceEqDiff, reduceIte, envOf0, envOf1, envOf2, envOf3, envOf4, envOf5, K0_0, K0_3, K0_4, K0_80, K0_81, K0_82, K0_83, K0_84] at hK
      obtain ⟨K1_0, K1_3, K1_4, K1_80, K1_81, K1_82, K1_83, K1_84⟩ := hK
      try simp only [RH] at hN
      have hlt : ¬ padN b.length - 8 + 8 < padN b.length := by omega
      have hone : 8 * b.length / 2 ^ (8 * (8 - 8)) = 8 * b.length := by simp
      rw [hone] at j6
      repeat (first
        | refine R_seq ?_ | refine R_region ?_ | refine R_nil ?_ | refine Q_seq ?_ | refine Q_norm ?_ | refine Q_seqr ?_ | refine Q_seqx ?_ | refine Q_bl ?_ | refine Q_blr ?_ | refine Q_blx ?_ | refine Q_blo rfl ?_ | refine R_block ?_ | refine R_skip ?_ | refine R_exit ?_ | refine R_ret ?_ | refine I_true ?_ | refine I_false ?_ | refine N_exit ?_ | refine N_ret ?_
        | (refine R_draw (by kernel_rfl) ?_)
        | ((first | apply R_op | apply R_op0)
           · (first | (simp (maxDischargeDepth := 9) only [RA, Nat.reduceEqDiff, Nat.reduceLT, Nat.reduceLeDiff, Nat.reduceAdd, Nat.reduceSub, Nat.reduceMul, Nat.reduceDiv, Nat.reduceMod, Nat.reducePow, Nat.reduceBEq, Nat.reduceGT, reduceIte, j7, j6, hlt, live51 3, S38len b23, T3, T5, T9, T38, cv8_i Try.underlying5 Try.underlying3, K0_0, K0_3, K0_4, K0_80, K0_81, K0_82, K0_83, K0_84, K1_0, K1_3, K1_4, K1_80, K1_81, K1_82, K1_83, K1_84] <;> rfl) | ((repeat (first | (simp (maxDischargeDepth := 9) only [RA, Nat.reduceEqDiff, Nat.reduceLT, Nat.reduceLeDiff, Nat.reduceAdd, Nat.reduceSub, Nat.reduceMul, Nat.reduceDiv, Nat.reduceMod, Nat.reducePow, Nat.reduceBEq, Nat.reduceGT, reduceIte, j7, j6, hlt, live51 3, S38len b23, T3, T5, T9, T38, cv8_i Try.underlying5 Try.underlying3, K0_0, K0_3, K0_4, K0_80, K0_81, K0_82, K0_83, K0_84, K1_0, K1_3, K1_4, K1_80, K1_81, K1_82, K1_83, K1_84]; done) | simp (maxDischargeDepth := 9) only [RA, Nat.reduceEqDiff, Nat.reduceLT, Nat.reduceLeDiff, Nat.reduceAdd, Nat.reduceSub, Nat.reduceMul, Nat.reduceDiv, Nat.reduceMod, Nat.reducePow, Nat.reduceBEq, Nat.reduceGT, reduceIte, j7, j6, hlt, live51 3, S38len b23, T3, T5, T9, T38, cv8_i Try.underlying5 Try.underlying3, K0_0, K0_3, K0_4, K0_80, K0_81, K0_82, K0_83, K0_84, K1_0, K1_3, K1_4, K1_80, K1_81, K1_82, K1_83, K1_84] | simp (disch := first | assumption | omega) only [RV, j7, j6, hlt, live51 3, S38len b23, T3, T5, T9, T38, cv8_i Try.underlying5 Try.underlying3, K0_0, K0_3, K0_4, K0_80, K0_81, K0_82, K0_83, K0_84, K1_0, K1_3, K1_4, K1_80, K1_81, K1_82, K1_83, K1_84])) <;> rfl)))
        | (apply R_cond
           · (simp only [RE, Nat.reduceEqDiff, Nat.reduceLT, Nat.reduceLeDiff, Nat.reduceBEq, reduceIte, j7, j6, hlt, live51 3, S38len b23, T3, T5, T9, T38, cv8_i Try.underlying5 Try.underlying3, K0_0, K0_3, K0_4, K0_80, K0_81, K0_82, K0_83, K0_84, K1_0, K1_3, K1_4, K1_80, K1_81, K1_82, K1_83, K1_84] <;> rfl))
        | (apply R_grd
           · (simp only [yieldedA, RY, Nat.reduceEqDiff, reduceIte, j7, j6, hlt, live51 3, S38len b23, T3, T5, T9, T38, cv8_i Try.underlying5 Try.underlying3, K0_0, K0_3, K0_4, K0_80, K0_81, K0_82, K0_83, K0_84, K1_0, K1_3, K1_4, K1_80, K1_81, K1_82, K1_83, K1_84] <;> rfl)))
      (first | refine ⟨.inr rfl, _, rfl, ?_⟩ | refine ⟨.inl rfl, _, rfl, ?_⟩) <;> simp only [packR, upd_apply, Nat.reduceEqDiff, if_true, if_false, reduceIte]
theorem tyv47 {h : Heap} {v : Value} (s : TyV Try.prog 8 h 47 v) : ∃ s : St, v = .agg ⟨b32 s.l⟩ := by
  obtain ⟨cs, rfl, s'⟩ := tyv_agg Try.underlying47 rfl s
  obtain ⟨xs, hl, rfl⟩ := ty_arr32 (d := 6) Try.underlying47 Try.underlying22 cells22 (by kernel_rfl) s'
  match xs, hl with
  | [a, b, c, d, e, f, g, h], _ => exact ⟨⟨a, b, c, d, e, f, g, h⟩, by unfold St.l; rfl⟩
theorem wl10 (h : Heap) (avs : List Value) (ty : TyVs Try.prog 8 h [38] avs) : ∃ v h', evF (cfg0 Try.prog) 12 10 avs h = some (.ok v, h') ∧ v = .bool true := by
  match avs, ty with
  | [v], ⟨s0, _⟩ => obtain ⟨xs, hb, _⟩ := tyv38 s0; exact law10 h v xs hb
theorem wl11 (h : Heap) (avs : List Value) (ty : TyVs Try.prog 8 h [38] avs) : ∃ v h', evF (cfg0 Try.prog) 12 11 avs h = some (.ok v, h') ∧ v = .bool true := by
  match avs, ty with
  | [v], ⟨s0, _⟩ => obtain ⟨xs, hb, _⟩ := tyv38 s0; exact law11 h v xs hb
theorem wl12 (h : Heap) (avs : List Value) (ty : TyVs Try.prog 8 h [47, 38] avs) : ∃ v h', evF (cfg0 Try.prog) 12 12 avs h = some (.ok v, h') ∧ v = .bool true := by
  match avs, ty with
  | [v, w], ⟨s0, s1, _⟩ =>
    obtain ⟨s, rfl⟩ := tyv47 s0
    obtain ⟨xs, hb, _⟩ := tyv38 s1; exact law12 s h w xs hb
theorem wl13 (h : Heap) (avs : List Value) (ty : TyVs Try.prog 8 h [38] avs) : ∃ v h', evF (cfg0 Try.prog) 12 13 avs h = some (.ok v, h') ∧ v = .bool true := by
  match avs, ty with
  | [v], ⟨s0, _⟩ => obtain ⟨xs, hb, _⟩ := tyv38 s0; exact law13 h v xs hb
theorem wl14 (h : Heap) (avs : List Value) (ty : TyVs Try.prog 8 h [38] avs) : ∃ v h', evF (cfg0 Try.prog) 12 14 avs h = some (.ok v, h') ∧ v = .bool true := by
  match avs, ty with
  | [v], ⟨s0, _⟩ => obtain ⟨xs, hb, _⟩ := tyv38 s0; exact law14 h v xs hb
theorem wl15 (h : Heap) (avs : List Value) (ty : TyVs Try.prog 8 h [47, 38] avs) : ∃ v h', evF (cfg0 Try.prog) 12 15 avs h = some (.ok v, h') ∧ v = .bool true := by
  match avs, ty with
  | [v, w], ⟨s0, s1, _⟩ =>
    obtain ⟨s, rfl⟩ := tyv47 s0
    obtain ⟨xs, hb, _⟩ := tyv38 s1; exact law15 s h w xs hb
theorem wl16 (h : Heap) (avs : List Value) (ty : TyVs Try.prog 8 h [38, 38] avs) : ∃ v h', evF (cfg0 Try.prog) 12 16 avs h = some (.ok v, h') ∧ v = .bool true := by
  match avs, ty with
  | [v, w], ⟨s0, s1, _⟩ =>
    obtain ⟨xs, hb, _⟩ := tyv38 s0
    obtain ⟨ys, hc, _⟩ := tyv38 s1; exact law16 h v w xs ys hb hc
end Go.Proofs.Ytfehhihllenjiaa
