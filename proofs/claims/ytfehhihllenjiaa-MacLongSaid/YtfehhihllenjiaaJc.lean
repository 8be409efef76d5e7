/- Tags: the tag. -/
import Derived.Test.YtfehhihllenjiaaJb
import Derived.Test.YtfehhihllenjiaaS9
set_option linter.all false
namespace Go.Proofs.Ytfehhihllenjiaa
open Go.Proofs
def keyS (key : List (BitVec 8)) : List (BitVec 8) := if 64 < key.length then sumS key else key
def padK (key : List (BitVec 8)) : List (BitVec 8) := keyS key ++ (List.replicate 64 0#8).drop (keyS key).length
def hmacS (key b : List (BitVec 8)) : List (BitVec 8) := sumS (turnB (padK key) 0x5c#8 ++ sumS (turnB (padK key) 0x36#8 ++ b))
theorem sumS_len (b : List (BitVec 8)) : (sumS b).length = 32 := by simp [sumS, outS]
theorem keyS_length (key : List (BitVec 8)) : (keyS key).length ≤ 64 := by
  unfold keyS; split
  · rw [sumS_len]; omega
  · omega
theorem padK_length (key : List (BitVec 8)) : (padK key).length = 64 := by
  have := keyS_length key
  simp [padK]; omega
theorem hmacS_length (key b : List (BitVec 8)) : (hmacS key b).length = 32 := sumS_len _
theorem catN1 (xs : List (BitVec 8)) : catN (fun _ => xs) 1 = xs := by simp [catN]
attribute [local irreducible] evOps iter evD evF evC evLoad evStore evAlloc evIndexAddr evIndex evLenB evBox evBin evUn evConvert evExtract evSlice evAppend evCopy evNil evBuild evMakeSlice evBuildSlice evBuiltin Program.underlying
attribute [local irreducible] catN sumS turnB keyS padK hmacS
theorem inl68 : inlOf Try.prog 68 = true := by kernel_rfl
theorem iso68 : isoOf Try.prog 68 = false := by kernel_rfl
set_option maxRecDepth 20000 in
set_option maxHeartbeats 8000000 in
theorem hmac68 (q : Nat) (h : Heap) (v w : Value) (key b : List (BitVec 8)) (hk : By h v key) (hb : By h w b) (hkl : key.length ≤ 1073741824) (hbl : b.length ≤ 1073741824) :
    ∃ v' h', fcall Try.prog (q + 9) (.func (.func 68) #[] #[]) [v, w] h = some (.ok v', h') ∧ v' = .agg ⟨b8 (hmacS key b)⟩ ∧ Fr h.nx h h' := by
  obtain ⟨aw, cw, hwe⟩ := sl_shape hb
  subst hwe
  rw [fcall_inl inl68 iso68, evF_eq Try.func68 rfl]
  apply evEnd_of_W
  simp only [Try.f68]
  have hkl2 := keyS_length key
  repeat (first
    | refine R_seq ?_ | refine R_region ?_ | refine R_nil ?_ | refine Q_seq ?_ | refine Q_norm ?_ | refine Q_seqr ?_ | refine Q_seqx ?_ | refine Q_bl ?_ | refine Q_blr ?_ | refine Q_blx ?_ | refine Q_blo rfl ?_ | refine R_block ?_ | refine R_skip ?_ | refine R_exit ?_ | refine R_ret ?_ | refine I_true ?_ | refine I_false ?_ | refine N_exit ?_ | refine N_ret ?_
    | ((first | apply R_op | apply R_op0)
       · (first | (simp (maxDischargeDepth := 9) only [RA, Nat.reduceEqDiff, Nat.reduceLT, Nat.reduceLeDiff, Nat.reduceAdd, Nat.reduceSub, Nat.reduceMul, Nat.reduceDiv, Nat.reduceMod, Nat.reducePow, Nat.reduceBEq, Nat.reduceGT, reduceIte, S38len hk, rep8, T1, T3, T5, T30, T33, T38, T114, T120, T122, T134] <;> rfl) | ((repeat (first | (simp (maxDischargeDepth := 9) only [RA, Nat.reduceEqDiff, Nat.reduceLT, Nat.reduceLeDiff, Nat.reduceAdd, Nat.reduceSub, Nat.reduceMul, Nat.reduceDiv, Nat.reduceMod, Nat.reducePow, Nat.reduceBEq, Nat.reduceGT, reduceIte, S38len hk, rep8, T1, T3, T5, T30, T33, T38, T114, T120, T122, T134]; done) | simp (maxDischargeDepth := 9) only [RA, Nat.reduceEqDiff, Nat.reduceLT, Nat.reduceLeDiff, Nat.reduceAdd, Nat.reduceSub, Nat.reduceMul, Nat.reduceDiv, Nat.reduceMod, Nat.reducePow, Nat.reduceBEq, Nat.reduceGT, reduceIte, S38len hk, rep8, T1, T3, T5, T30, T33, T38, T114, T120, T122, T134] | simp (disch := first | assumption | omega) only [RV, S38len hk, rep8, T1, T3, T5, T30, T33, T38, T114, T120, T122, T134])) <;> rfl)))
    | (apply R_cond
       · (simp only [RE, Nat.reduceEqDiff, Nat.reduceLT, Nat.reduceLeDiff, Nat.reduceBEq, reduceIte, S38len hk, rep8, T1, T3, T5, T30, T33, T38, T114, T120, T122, T134] <;> rfl))
    | (apply R_grd
       · (simp only [yieldedA, RY, Nat.reduceEqDiff, reduceIte, S38len hk, rep8, T1, T3, T5, T30, T33, T38, T114, T120, T122, T134] <;> rfl)))
  refine I_join (fun e1 h1 => ∃ u, e1 0 = u ∧ By h1 u (keyS key) ∧ e1 1 = .slice aw b.length cw ∧ e1 4 = .pointer (some ⟨h.nx, 0, none⟩) ∧ e1 5 = .pointer (some ⟨h.nx + 1, 0, none⟩) ∧ h1.obj h.nx = some (.row .rw 1 (b8 (List.replicate 32 0#8))) ∧ h1.obj (h.nx + 1) = some (.row .rw 1 (b8 (List.replicate 64 0#8))) ∧ Fr h.nx h h1 ∧ h.nx + 2 ≤ h1.nx) ?_ ?_ ?_
  · intro hlong
    have hks : keyS key = sumS key := by unfold keyS; exact if_pos hlong
    repeat (first
      | refine R_seq ?_ | refine R_region ?_ | refine R_nil ?_ | refine Q_seq ?_ | refine Q_norm ?_ | refine Q_seqr ?_ | refine Q_seqx ?_ | refine Q_bl ?_ | refine Q_blr ?_ | refine Q_blx ?_ | refine Q_blo rfl ?_ | refine R_block ?_ | refine R_skip ?_ | refine R_exit ?_ | refine R_ret ?_ | refine I_true ?_ | refine I_false ?_ | refine N_exit ?_ | refine N_ret ?_
      | (refine R_draw (by kernel_rfl) ?_)
      | ((first | apply R_op | apply R_op0)
         · (first | (simp (maxDischargeDepth := 9) only [RA, Nat.reduceEqDiff, Nat.reduceLT, Nat.reduceLeDiff, Nat.reduceAdd, Nat.reduceSub, Nat.reduceMul, Nat.reduceDiv, Nat.reduceMod, Nat.reducePow, Nat.reduceBEq, Nat.reduceGT, reduceIte, T1, T3, T5, T30, T33, T38, T114, T120, T122, T134] <;> rfl) | ((repeat (first | (simp (maxDischargeDepth := 9) only [RA, Nat.reduceEqDiff, Nat.reduceLT, Nat.reduceLeDiff, Nat.reduceAdd, Nat.reduceSub, Nat.reduceMul, Nat.reduceDiv, Nat.reduceMod, Nat.reducePow, Nat.reduceBEq, Nat.reduceGT, reduceIte, T1, T3, T5, T30, T33, T38, T114, T120, T122, T134]; done) | simp (maxDischargeDepth := 9) only [RA, Nat.reduceEqDiff, Nat.reduceLT, Nat.reduceLeDiff, Nat.reduceAdd, Nat.reduceSub, Nat.reduceMul, Nat.reduceDiv, Nat.reduceMod, Nat.reducePow, Nat.reduceBEq, Nat.reduceGT, reduceIte, T1, T3, T5, T30, T33, T38, T114, T120, T122, T134] | simp (disch := first | assumption | omega) only [RV, T1, T3, T5, T30, T33, T38, T114, T120, T122, T134])) <;> rfl)))
      | (apply R_cond
         · (simp only [RE, Nat.reduceEqDiff, Nat.reduceLT, Nat.reduceLeDiff, Nat.reduceBEq, reduceIte, T1, T3, T5, T30, T33, T38, T114, T120, T122, T134] <;> rfl))
      | (apply R_grd
         · (simp only [yieldedA, RY, Nat.reduceEqDiff, reduceIte, T1, T3, T5, T30, T33, T38, T114, T120, T122, T134] <;> rfl)))
    refine R_fn ?_ (sum52 (q + 1) _ v key (hk.fr0 (by (repeat (first | assumption | exact Fr.refl _ _ | refine Fr.new ?_ ?_ _ _ _ | refine Fr.put ?_ ?_ _ | omega | (simp only [RH]; omega))))) (by omega)) ?_
    · rfl
    intro v1 h1 ⟨hv1, F1⟩
    subst hv1
    simp only [RH] at F1
    have n1 := F1.1
    simp only [RH] at n1
    have o0 := F1.2 h.nx (by omega)
    have o1 := F1.2 (h.nx + 1) (by omega)
    simp only [RH, rep8, Nat.reduceEqDiff, reduceIte] at o0 o1
    have hsl := sumS_len key
    have hp8 := fun (H : Heap) (p : Nat) => puts8 (h := H) (b := p) (es := 1) hsl (List.length_replicate (n := 32) (a := 0#8))
    repeat (first
      | refine R_seq ?_ | refine R_region ?_ | refine R_nil ?_ | refine Q_seq ?_ | refine Q_norm ?_ | refine Q_seqr ?_ | refine Q_seqx ?_ | refine Q_bl ?_ | refine Q_blr ?_ | refine Q_blx ?_ | refine Q_blo rfl ?_ | refine R_block ?_ | refine R_skip ?_ | refine R_exit ?_ | refine R_ret ?_ | refine I_true ?_ | refine I_false ?_ | refine N_exit ?_ | refine N_ret ?_
      | (refine R_draw (by kernel_rfl) ?_)
      | ((first | apply R_op | apply R_op0)
         · (first | (simp (maxDischargeDepth := 9) only [RA, Nat.reduceEqDiff, Nat.reduceLT, Nat.reduceLeDiff, Nat.reduceAdd, Nat.reduceSub, Nat.reduceMul, Nat.reduceDiv, Nat.reduceMod, Nat.reducePow, Nat.reduceBEq, Nat.reduceGT, reduceIte, hp8, rep8, T1, T3, T5, T30, T33, T38, T114, T120, T122, T134] <;> rfl) | ((repeat (first | (simp (maxDischargeDepth := 9) only [RA, Nat.reduceEqDiff, Nat.reduceLT, Nat.reduceLeDiff, Nat.reduceAdd, Nat.reduceSub, Nat.reduceMul, Nat.reduceDiv, Nat.reduceMod, Nat.reducePow, Nat.reduceBEq, Nat.reduceGT, reduceIte, hp8, rep8, T1, T3, T5, T30, T33, T38, T114, T120, T122, T134]; done) | simp (maxDischargeDepth := 9) only [RA, Nat.reduceEqDiff, Nat.reduceLT, Nat.reduceLeDiff, Nat.reduceAdd, Nat.reduceSub, Nat.reduceMul, Nat.reduceDiv, Nat.reduceMod, Nat.reducePow, Nat.reduceBEq, Nat.reduceGT, reduceIte, hp8, rep8, T1, T3, T5, T30, T33, T38, T114, T120, T122, T134] | simp (disch := first | assumption | omega) only [RV, hp8, rep8, T1, T3, T5, T30, T33, T38, T114, T120, T122, T134])) <;> rfl)))
      | (apply R_cond
         · (simp only [RE, Nat.reduceEqDiff, Nat.reduceLT, Nat.reduceLeDiff, Nat.reduceBEq, reduceIte, hp8, rep8, T1, T3, T5, T30, T33, T38, T114, T120, T122, T134] <;> rfl))
      | (apply R_grd
         · (simp only [yieldedA, RY, Nat.reduceEqDiff, reduceIte, hp8, rep8, T1, T3, T5, T30, T33, T38, T114, T120, T122, T134] <;> rfl)))
    refine ⟨rfl, .slice (some ⟨h1.nx, 0, none⟩) 32 32, by (try simp only [List.map_cons, List.map_nil, RH, Nat.reduceAdd, Nat.reduceEqDiff, reduceIte, ev_tmp, ev_const, lit_iv, lit_w8, lit_w32, lit_w64, envOf0, envOf1, envOf2, envOf3, envOf4, envOf5, T1, T3, T5, T30, T33, T38, T114, T120, T122, T134]), ?_, by (try simp only [List.map_cons, List.map_nil, RH, Nat.reduceAdd, Nat.reduceEqDiff, reduceIte, ev_tmp, ev_const, lit_iv, lit_w8, lit_w32, lit_w64, envOf0, envOf1, envOf2, envOf3, envOf4, envOf5, T1, T3, T5, T30, T33, T38, T114, T120, T122, T134]), by (try simp only [List.map_cons, List.map_nil, RH, Nat.reduceAdd, Nat.reduceEqDiff, reduceIte, ev_tmp, ev_const, lit_iv, lit_w8, lit_w32, lit_w64, envOf0, envOf1, envOf2, envOf3, envOf4, envOf5, T1, T3, T5, T30, T33, T38, T114, T120, T122, T134]), by (try simp only [List.map_cons, List.map_nil, RH, Nat.reduceAdd, Nat.reduceEqDiff, reduceIte, ev_tmp, ev_const, lit_iv, lit_w8, lit_w32, lit_w64, envOf0, envOf1, envOf2, envOf3, envOf4, envOf5, T1, T3, T5, T30, T33, T38, T114, T120, T122, T134]), ?_, ?_, ?_, by simp only [RH]; omega⟩
    · rw [hks]
      exact by_row (k := .rw) (by simp only [RH]; omega) (by simp [RH]) (Nat.le_refl _) hsl
    · simp only [RH]
      rw [if_neg (by omega), if_neg (by omega), o0]
    · simp only [RH]
      rw [if_neg (by omega), if_neg (by omega), o1]
    · refine Fr.put (Fr.new ?_ (by omega) _ _ _) (by omega) _
      exact (Fr.new (Fr.new (.refl _ _) (Nat.le_refl _) _ _ _) (by simp only [RH]; omega) _ _ _).trans (F1.le (by omega))
  · intro hlong
    have hks : keyS key = key := by unfold keyS; exact if_neg hlong
    repeat (first
      | refine R_seq ?_ | refine R_region ?_ | refine R_nil ?_ | refine Q_seq ?_ | refine Q_norm ?_ | refine Q_seqr ?_ | refine Q_seqx ?_ | refine Q_bl ?_ | refine Q_blr ?_ | refine Q_blx ?_ | refine Q_blo rfl ?_ | refine R_block ?_ | refine R_skip ?_ | refine R_exit ?_ | refine R_ret ?_ | refine I_true ?_ | refine I_false ?_ | refine N_exit ?_ | refine N_ret ?_
      | (refine R_draw (by kernel_rfl) ?_)
      | ((first | apply R_op | apply R_op0)
         · (first | (simp (maxDischargeDepth := 9) only [RA, Nat.reduceEqDiff, Nat.reduceLT, Nat.reduceLeDiff, Nat.reduceAdd, Nat.reduceSub, Nat.reduceMul, Nat.reduceDiv, Nat.reduceMod, Nat.reducePow, Nat.reduceBEq, Nat.reduceGT, reduceIte, T1, T3, T5, T30, T33, T38, T114, T120, T122, T134] <;> rfl) | ((repeat (first | (simp (maxDischargeDepth := 9) only [RA, Nat.reduceEqDiff, Nat.reduceLT, Nat.reduceLeDiff, Nat.reduceAdd, Nat.reduceSub, Nat.reduceMul, Nat.reduceDiv, Nat.reduceMod, Nat.reducePow, Nat.reduceBEq, Nat.reduceGT, reduceIte, T1, T3, T5, T30, T33, T38, T114, T120, T122, T134]; done) | simp (maxDischargeDepth := 9) only [RA, Nat.reduceEqDiff, Nat.reduceLT, Nat.reduceLeDiff, Nat.reduceAdd, Nat.reduceSub, Nat.reduceMul, Nat.reduceDiv, Nat.reduceMod, Nat.reducePow, Nat.reduceBEq, Nat.reduceGT, reduceIte, T1, T3, T5, T30, T33, T38, T114, T120, T122, T134] | simp (disch := first | assumption | omega) only [RV, T1, T3, T5, T30, T33, T38, T114, T120, T122, T134])) <;> rfl)))
      | (apply R_cond
         · (simp only [RE, Nat.reduceEqDiff, Nat.reduceLT, Nat.reduceLeDiff, Nat.reduceBEq, reduceIte, T1, T3, T5, T30, T33, T38, T114, T120, T122, T134] <;> rfl))
      | (apply R_grd
         · (simp only [yieldedA, RY, Nat.reduceEqDiff, reduceIte, T1, T3, T5, T30, T33, T38, T114, T120, T122, T134] <;> rfl)))
    refine ⟨rfl, v, by (try simp only [List.map_cons, List.map_nil, RH, Nat.reduceAdd, Nat.reduceEqDiff, reduceIte, ev_tmp, ev_const, lit_iv, lit_w8, lit_w32, lit_w64, envOf0, envOf1, envOf2, envOf3, envOf4, envOf5, T1, T3, T5, T30, T33, T38, T114, T120, T122, T134]), ?_, by (try simp only [List.map_cons, List.map_nil, RH, Nat.reduceAdd, Nat.reduceEqDiff, reduceIte, ev_tmp, ev_const, lit_iv, lit_w8, lit_w32, lit_w64, envOf0, envOf1, envOf2, envOf3, envOf4, envOf5, T1, T3, T5, T30, T33, T38, T114, T120, T122, T134]), by (try simp only [List.map_cons, List.map_nil, RH, Nat.reduceAdd, Nat.reduceEqDiff, reduceIte, ev_tmp, ev_const, lit_iv, lit_w8, lit_w32, lit_w64, envOf0, envOf1, envOf2, envOf3, envOf4, envOf5, T1, T3, T5, T30, T33, T38, T114, T120, T122, T134]), by (try simp only [List.map_cons, List.map_nil, RH, Nat.reduceAdd, Nat.reduceEqDiff, reduceIte, ev_tmp, ev_const, lit_iv, lit_w8, lit_w32, lit_w64, envOf0, envOf1, envOf2, envOf3, envOf4, envOf5, T1, T3, T5, T30, T33, T38, T114, T120, T122, T134]), ?_, ?_, by (repeat (first | assumption | exact Fr.refl _ _ | refine Fr.new ?_ ?_ _ _ _ | refine Fr.put ?_ ?_ _ | omega | (simp only [RH]; omega))), by simp only [RH]; omega⟩
    · rw [hks]; exact hk.fr0 (by (repeat (first | assumption | exact Fr.refl _ _ | refine Fr.new ?_ ?_ _ _ _ | refine Fr.put ?_ ?_ _ | omega | (simp only [RH]; omega))))
    · simp [RH, rep8]
    · simp [RH, rep8]
  intro e1 h1 ⟨u, j0, bu, j1, j4, j5, o0, o1, F1, n1⟩
  repeat (first
    | refine R_seq ?_ | refine R_region ?_ | refine R_nil ?_ | refine Q_seq ?_ | refine Q_norm ?_ | refine Q_seqr ?_ | refine Q_seqx ?_ | refine Q_bl ?_ | refine Q_blr ?_ | refine Q_blx ?_ | refine Q_blo rfl ?_ | refine R_block ?_ | refine R_skip ?_ | refine R_exit ?_ | refine R_ret ?_ | refine I_true ?_ | refine I_false ?_ | refine N_exit ?_ | refine N_ret ?_
    | ((first | apply R_op | apply R_op0)
       · (first | (simp (maxDischargeDepth := 9) only [RA, Nat.reduceEqDiff, Nat.reduceLT, Nat.reduceLeDiff, Nat.reduceAdd, Nat.reduceSub, Nat.reduceMul, Nat.reduceDiv, Nat.reduceMod, Nat.reducePow, Nat.reduceBEq, Nat.reduceGT, reduceIte, j5, j0, T1, T3, T5, T30, T33, T38, T114, T120, T122, T134] <;> rfl) | ((repeat (first | (simp (maxDischargeDepth := 9) only [RA, Nat.reduceEqDiff, Nat.reduceLT, Nat.reduceLeDiff, Nat.reduceAdd, Nat.reduceSub, Nat.reduceMul, Nat.reduceDiv, Nat.reduceMod, Nat.reducePow, Nat.reduceBEq, Nat.reduceGT, reduceIte, j5, j0, T1, T3, T5, T30, T33, T38, T114, T120, T122, T134]; done) | simp (maxDischargeDepth := 9) only [RA, Nat.reduceEqDiff, Nat.reduceLT, Nat.reduceLeDiff, Nat.reduceAdd, Nat.reduceSub, Nat.reduceMul, Nat.reduceDiv, Nat.reduceMod, Nat.reducePow, Nat.reduceBEq, Nat.reduceGT, reduceIte, j5, j0, T1, T3, T5, T30, T33, T38, T114, T120, T122, T134] | simp (disch := first | assumption | omega) only [RV, j5, j0, T1, T3, T5, T30, T33, T38, T114, T120, T122, T134])) <;> rfl)))
    | (apply R_cond
       · (simp only [RE, Nat.reduceEqDiff, Nat.reduceLT, Nat.reduceLeDiff, Nat.reduceBEq, reduceIte, j5, j0, T1, T3, T5, T30, T33, T38, T114, T120, T122, T134] <;> rfl))
    | (apply R_grd
       · (simp only [yieldedA, RY, Nat.reduceEqDiff, reduceIte, j5, j0, T1, T3, T5, T30, T33, T38, T114, T120, T122, T134] <;> rfl)))
  refine R_cpA E38 (p := h.nx + 1) (n := 64) (w := u) (xs := List.replicate 64 0#8) ?_ ?_ o1 (by simp) bu hkl2 ?_
  · first | rfl | (first | rw [ev_tmp] | rw [ev_const] | skip) <;> simp only [upd_apply, Nat.reduceEqDiff, if_true, if_false, reduceIte, lit_iv, lit_w8]
  · first | rfl | (first | rw [ev_tmp] | rw [ev_const] | skip) <;> simp only [upd_apply, Nat.reduceEqDiff, if_true, if_false, reduceIte, lit_iv, lit_w8, j0]
  intro h2 o2 x2 n2
  have o2' : h2.obj (h.nx + 1) = some (.row .rw 1 (b8 (padK key))) := by
    rw [o2]; unfold padK; rfl
  have q0 := x2 h.nx (by omega)
  rw [o0] at q0
  have F2 : Fr h.nx h h2 := F1.trans ⟨by omega, fun r hr => x2 r (by omega)⟩
  have hpk := padK_length key
  have hcp := fun (kd : Kind) (es : Nat) => cut8 (k := kd) (es := es) hpk
  repeat (first
    | refine R_seq ?_ | refine R_region ?_ | refine R_nil ?_ | refine Q_seq ?_ | refine Q_norm ?_ | refine Q_seqr ?_ | refine Q_seqx ?_ | refine Q_bl ?_ | refine Q_blr ?_ | refine Q_blx ?_ | refine Q_blo rfl ?_ | refine R_block ?_ | refine R_skip ?_ | refine R_exit ?_ | refine R_ret ?_ | refine I_true ?_ | refine I_false ?_ | refine N_exit ?_ | refine N_ret ?_
    | ((first | apply R_op | apply R_op0)
       · (first | (simp (maxDischargeDepth := 9) only [RA, Nat.reduceEqDiff, Nat.reduceLT, Nat.reduceLeDiff, Nat.reduceAdd, Nat.reduceSub, Nat.reduceMul, Nat.reduceDiv, Nat.reduceMod, Nat.reducePow, Nat.reduceBEq, Nat.reduceGT, reduceIte, T1, T3, T5, T30, T33, T38, T114, T120, T122, T134] <;> rfl) | ((repeat (first | (simp (maxDischargeDepth := 9) only [RA, Nat.reduceEqDiff, Nat.reduceLT, Nat.reduceLeDiff, Nat.reduceAdd, Nat.reduceSub, Nat.reduceMul, Nat.reduceDiv, Nat.reduceMod, Nat.reducePow, Nat.reduceBEq, Nat.reduceGT, reduceIte, T1, T3, T5, T30, T33, T38, T114, T120, T122, T134]; done) | simp (maxDischargeDepth := 9) only [RA, Nat.reduceEqDiff, Nat.reduceLT, Nat.reduceLeDiff, Nat.reduceAdd, Nat.reduceSub, Nat.reduceMul, Nat.reduceDiv, Nat.reduceMod, Nat.reducePow, Nat.reduceBEq, Nat.reduceGT, reduceIte, T1, T3, T5, T30, T33, T38, T114, T120, T122, T134] | simp (disch := first | assumption | omega) only [RV, T1, T3, T5, T30, T33, T38, T114, T120, T122, T134])) <;> rfl)))
    | (apply R_cond
       · (simp only [RE, Nat.reduceEqDiff, Nat.reduceLT, Nat.reduceLeDiff, Nat.reduceBEq, reduceIte, T1, T3, T5, T30, T33, T38, T114, T120, T122, T134] <;> rfl))
    | (apply R_grd
       · (simp only [yieldedA, RY, Nat.reduceEqDiff, reduceIte, T1, T3, T5, T30, T33, T38, T114, T120, T122, T134] <;> rfl)))
  refine D_draw [0, 1, 2, 3] (fun _ => True) (by kernel_rfl) ?_
  repeat (first
    | refine D_nil ?_ | refine I_true ?_ | refine I_false ?_
    | ((first | apply D_op | apply D_op0)
       · (first | (simp (maxDischargeDepth := 9) only [RA, Nat.reduceEqDiff, Nat.reduceLT, Nat.reduceLeDiff, Nat.reduceAdd, Nat.reduceSub, Nat.reduceMul, Nat.reduceDiv, Nat.reduceMod, Nat.reducePow, Nat.reduceBEq, Nat.reduceGT, reduceIte, o2', hcp, j5, T1, T3, T5, T30, T33, T38, T114, T120, T122, T134] <;> rfl) | ((repeat (first | (simp (maxDischargeDepth := 9) only [RA, Nat.reduceEqDiff, Nat.reduceLT, Nat.reduceLeDiff, Nat.reduceAdd, Nat.reduceSub, Nat.reduceMul, Nat.reduceDiv, Nat.reduceMod, Nat.reducePow, Nat.reduceBEq, Nat.reduceGT, reduceIte, o2', hcp, j5, T1, T3, T5, T30, T33, T38, T114, T120, T122, T134]; done) | simp (maxDischargeDepth := 9) only [RA, Nat.reduceEqDiff, Nat.reduceLT, Nat.reduceLeDiff, Nat.reduceAdd, Nat.reduceSub, Nat.reduceMul, Nat.reduceDiv, Nat.reduceMod, Nat.reducePow, Nat.reduceBEq, Nat.reduceGT, reduceIte, o2', hcp, j5, T1, T3, T5, T30, T33, T38, T114, T120, T122, T134] | simp (disch := first | assumption | omega) only [RV, o2', hcp, j5, T1, T3, T5, T30, T33, T38, T114, T120, T122, T134])) <;> rfl))
       · (intro hF; first | exact chk_pure rfl | exact chk_alloc rfl | exact chk_read rfl | exact chk_iso iso52 | exact chk_call iso52 (fun _ _ _ => rfl) | exact chk_iso iso107 | exact chk_call iso107 (fun _ _ _ => rfl) | exact chk_iso iso108 | exact chk_call iso108 (fun _ _ _ => rfl) | exact chk_iso iso109 | exact chk_call iso109 (fun _ _ _ => rfl) | (exfalso; revert hF; decide) | ((first | refine chk_load ?_ | refine chk_slice ?_ | refine chk_convert ?_ | refine chk_store ?_ | refine chk_call (by kernel_rfl) ?_); simp only [eq_self, ev_tmp, upd_apply, rowsOfV, List.mem_cons, List.not_mem_nil, or_false, forall_eq, forall_eq_or_imp, obj_put, obj_new, nx_new, nx_put, Nat.reduceEqDiff, if_true, if_false, reduceIte, implies_true, and_self, and_true, true_or, or_true, o2', hcp, j5, T1, T3, T5, T30, T33, T38, T114, T120, T122, T134])))
    | (apply D_grd
       · (simp only [yieldedA, RY, Nat.reduceEqDiff, reduceIte, o2', hcp, j5, T1, T3, T5, T30, T33, T38, T114, T120, T122, T134] <;> rfl)))
  refine D_fn ?_ (begin107 (q + 6) h2 (padK key) hpk 0x36#8) iso107 (fun v4 h4 hp _ r _ hr => by obtain ⟨_, _, _, _, _, _, _, _, F⟩ := hp; exact F.2 r hr) ?_
  · rfl
  intro u3 h3 ⟨p3, v3, hu3, p3a, p3b, o3, own3, np3, F3⟩
  subst hu3
  have n3 := F3.1
  have z3 := F3.2 (h.nx + 1) (by omega)
  rw [o2'] at z3
  repeat (first
    | refine D_nil ?_ | refine I_true ?_ | refine I_false ?_
    | ((first | apply D_op | apply D_op0)
       · (first | (simp (maxDischargeDepth := 9) only [RA, Nat.reduceEqDiff, Nat.reduceLT, Nat.reduceLeDiff, Nat.reduceAdd, Nat.reduceSub, Nat.reduceMul, Nat.reduceDiv, Nat.reduceMod, Nat.reducePow, Nat.reduceBEq, Nat.reduceGT, reduceIte, z3, hcp, j5, T1, T3, T5, T30, T33, T38, T114, T120, T122, T134] <;> rfl) | ((repeat (first | (simp (maxDischargeDepth := 9) only [RA, Nat.reduceEqDiff, Nat.reduceLT, Nat.reduceLeDiff, Nat.reduceAdd, Nat.reduceSub, Nat.reduceMul, Nat.reduceDiv, Nat.reduceMod, Nat.reducePow, Nat.reduceBEq, Nat.reduceGT, reduceIte, z3, hcp, j5, T1, T3, T5, T30, T33, T38, T114, T120, T122, T134]; done) | simp (maxDischargeDepth := 9) only [RA, Nat.reduceEqDiff, Nat.reduceLT, Nat.reduceLeDiff, Nat.reduceAdd, Nat.reduceSub, Nat.reduceMul, Nat.reduceDiv, Nat.reduceMod, Nat.reducePow, Nat.reduceBEq, Nat.reduceGT, reduceIte, z3, hcp, j5, T1, T3, T5, T30, T33, T38, T114, T120, T122, T134] | simp (disch := first | assumption | omega) only [RV, z3, hcp, j5, T1, T3, T5, T30, T33, T38, T114, T120, T122, T134])) <;> rfl))
       · (intro hF; first | exact chk_pure rfl | exact chk_alloc rfl | exact chk_read rfl | exact chk_iso iso52 | exact chk_call iso52 (fun _ _ _ => rfl) | exact chk_iso iso107 | exact chk_call iso107 (fun _ _ _ => rfl) | exact chk_iso iso108 | exact chk_call iso108 (fun _ _ _ => rfl) | exact chk_iso iso109 | exact chk_call iso109 (fun _ _ _ => rfl) | (exfalso; revert hF; decide) | ((first | refine chk_load ?_ | refine chk_slice ?_ | refine chk_convert ?_ | refine chk_store ?_ | refine chk_call (by kernel_rfl) ?_); simp only [eq_self, ev_tmp, upd_apply, rowsOfV, List.mem_cons, List.not_mem_nil, or_false, forall_eq, forall_eq_or_imp, obj_put, obj_new, nx_new, nx_put, Nat.reduceEqDiff, if_true, if_false, reduceIte, implies_true, and_self, and_true, true_or, or_true, z3, hcp, j5, T1, T3, T5, T30, T33, T38, T114, T120, T122, T134])))
    | (apply D_grd
       · (simp only [yieldedA, RY, Nat.reduceEqDiff, reduceIte, z3, hcp, j5, T1, T3, T5, T30, T33, T38, T114, T120, T122, T134] <;> rfl)))
  refine D_fn ?_ (begin107 (q + 6) h3 (padK key) hpk 0x5c#8) iso107 (fun v4 h4 hp _ r _ hr => by obtain ⟨_, _, _, _, _, _, _, _, F⟩ := hp; exact F.2 r hr) ?_
  · rfl
  intro u4 h4 ⟨p4, v4, hu4, p4a, p4b, o4, own4, np4, F4⟩
  subst hu4
  have n4 := F4.1
  have rows3 := own3.rows
  have rows4 := own4.rows
  have o34 : h4.obj p3 = some (.row .rw 1 [v3]) := (F4.2 p3 p3b).trans o3
  have own34 : OwB h2.nx h4 v3 (turnB (padK key) 0x36#8) := own3.keep n4 (fun r hr => F4.2 r (rows3 r hr).2)
  have oN4 : h4.obj h.nx = some (.row .rw 1 (b8 (List.replicate 32 0#8))) := by
    rw [F4.2 _ (by omega), F3.2 _ (by omega)]; exact q0
  have FA : Fr h.nx h h4 := F2.trans ((F3.le (by omega)).trans (F4.le (by omega)))
  have hb4 : By h4 (.slice aw b.length cw) b := hb.fr0 FA
  have hbrow := hb.lt
  have htl1 := turnB_length (padK key) 0x36#8
  have htl2 := turnB_length (padK key) 0x5c#8
  rw [hpk] at htl1 htl2
  repeat (first
    | refine D_nil ?_ | refine I_true ?_ | refine I_false ?_
    | ((first | apply D_op | apply D_op0)
       · (first | (simp (maxDischargeDepth := 9) only [RA, Nat.reduceEqDiff, Nat.reduceLT, Nat.reduceLeDiff, Nat.reduceAdd, Nat.reduceSub, Nat.reduceMul, Nat.reduceDiv, Nat.reduceMod, Nat.reducePow, Nat.reduceBEq, Nat.reduceGT, reduceIte, j1, T1, T3, T5, T30, T33, T38, T114, T120, T122, T134] <;> rfl) | ((repeat (first | (simp (maxDischargeDepth := 9) only [RA, Nat.reduceEqDiff, Nat.reduceLT, Nat.reduceLeDiff, Nat.reduceAdd, Nat.reduceSub, Nat.reduceMul, Nat.reduceDiv, Nat.reduceMod, Nat.reducePow, Nat.reduceBEq, Nat.reduceGT, reduceIte, j1, T1, T3, T5, T30, T33, T38, T114, T120, T122, T134]; done) | simp (maxDischargeDepth := 9) only [RA, Nat.reduceEqDiff, Nat.reduceLT, Nat.reduceLeDiff, Nat.reduceAdd, Nat.reduceSub, Nat.reduceMul, Nat.reduceDiv, Nat.reduceMod, Nat.reducePow, Nat.reduceBEq, Nat.reduceGT, reduceIte, j1, T1, T3, T5, T30, T33, T38, T114, T120, T122, T134] | simp (disch := first | assumption | omega) only [RV, j1, T1, T3, T5, T30, T33, T38, T114, T120, T122, T134])) <;> rfl))
       · (intro hF; first | exact chk_pure rfl | exact chk_alloc rfl | exact chk_read rfl | exact chk_iso iso52 | exact chk_call iso52 (fun _ _ _ => rfl) | exact chk_iso iso107 | exact chk_call iso107 (fun _ _ _ => rfl) | exact chk_iso iso108 | exact chk_call iso108 (fun _ _ _ => rfl) | exact chk_iso iso109 | exact chk_call iso109 (fun _ _ _ => rfl) | (exfalso; revert hF; decide) | ((first | refine chk_load ?_ | refine chk_slice ?_ | refine chk_convert ?_ | refine chk_store ?_ | refine chk_call (by kernel_rfl) ?_); simp only [eq_self, ev_tmp, upd_apply, rowsOfV, List.mem_cons, List.not_mem_nil, or_false, forall_eq, forall_eq_or_imp, obj_put, obj_new, nx_new, nx_put, Nat.reduceEqDiff, if_true, if_false, reduceIte, implies_true, and_self, and_true, true_or, or_true, j1, T1, T3, T5, T30, T33, T38, T114, T120, T122, T134])))
    | (apply D_grd
       · (simp only [yieldedA, RY, Nat.reduceEqDiff, reduceIte, j1, T1, T3, T5, T30, T33, T38, T114, T120, T122, T134] <;> rfl)))
  repeat (first
    | refine R_seq ?_ | refine R_region ?_ | refine R_nil ?_ | refine Q_seq ?_ | refine Q_norm ?_ | refine Q_seqr ?_ | refine Q_seqx ?_ | refine Q_bl ?_ | refine Q_blr ?_ | refine Q_blx ?_ | refine Q_blo rfl ?_ | refine R_block ?_ | refine R_skip ?_ | refine R_exit ?_ | refine R_ret ?_ | refine I_true ?_ | refine I_false ?_ | refine N_exit ?_ | refine N_ret ?_
    | ((first | apply R_op | apply R_op0)
       · (first | (simp (maxDischargeDepth := 9) only [RA, Nat.reduceEqDiff, Nat.reduceLT, Nat.reduceLeDiff, Nat.reduceAdd, Nat.reduceSub, Nat.reduceMul, Nat.reduceDiv, Nat.reduceMod, Nat.reducePow, Nat.reduceBEq, Nat.reduceGT, reduceIte, j1, T1, T3, T5, T30, T33, T38, T114, T120, T122, T134] <;> rfl) | ((repeat (first | (simp (maxDischargeDepth := 9) only [RA, Nat.reduceEqDiff, Nat.reduceLT, Nat.reduceLeDiff, Nat.reduceAdd, Nat.reduceSub, Nat.reduceMul, Nat.reduceDiv, Nat.reduceMod, Nat.reducePow, Nat.reduceBEq, Nat.reduceGT, reduceIte, j1, T1, T3, T5, T30, T33, T38, T114, T120, T122, T134]; done) | simp (maxDischargeDepth := 9) only [RA, Nat.reduceEqDiff, Nat.reduceLT, Nat.reduceLeDiff, Nat.reduceAdd, Nat.reduceSub, Nat.reduceMul, Nat.reduceDiv, Nat.reduceMod, Nat.reducePow, Nat.reduceBEq, Nat.reduceGT, reduceIte, j1, T1, T3, T5, T30, T33, T38, T114, T120, T122, T134] | simp (disch := first | assumption | omega) only [RV, j1, T1, T3, T5, T30, T33, T38, T114, T120, T122, T134])) <;> rfl)))
    | (apply R_cond
       · (simp only [RE, Nat.reduceEqDiff, Nat.reduceLT, Nat.reduceLeDiff, Nat.reduceBEq, reduceIte, j1, T1, T3, T5, T30, T33, T38, T114, T120, T122, T134] <;> rfl))
    | (apply R_grd
       · (simp only [yieldedA, RY, Nat.reduceEqDiff, reduceIte, j1, T1, T3, T5, T30, T33, T38, T114, T120, T122, T134] <;> rfl)))
  have c1 : catN (fun _ => b) 1 = b := catN1 b
  have hput := put109 (q + 7) h2.nx p3 h4.nx 1 (newRowH h4 .rw 1 [.slice aw b.length cw]) v3 (turnB (padK key) 0x36#8) [.slice aw b.length cw] (fun _ => b) (by rw [obj_new, if_neg (by omega)]; exact o34) (by simp only [RH]; omega) own34.new np3 (by simp only [RH]; omega) (by simp [RH]) (by simp only [RH]; omega) (by omega) (fun hr => by have := (rows3 _ hr).2; omega) rfl
    (fun j hj => by
      have hj0 : j = 0 := by omega
      subst hj0
      exact ⟨_, rfl, hb4.fr0 (Fr.new (.refl _ _) (Nat.le_refl _) _ _ _), fun z hz => ⟨by have := hbrow z hz; omega, fun hr => by have := hbrow z hz; have := (rows3 _ hr).1; omega⟩⟩) (by rw [c1, htl1]; omega) (by decide)
  rw [c1] at hput
  refine R_fn ?_ hput ?_
  · rfl
  intro u5 h5 ⟨v5, o5, own5, np5, n5, x5, y5⟩
  simp only [RH] at n5 x5
  have o45 : h5.obj p4 = some (.row .rw 1 [v4]) := by
    rw [x5 p4 (by omega) (by omega) (fun hr => by have := (rows3 _ hr).2; omega), if_neg (by omega)]; exact o4
  have own45 : OwB h3.nx h5 v4 (turnB (padK key) 0x5c#8) := own4.keep (by omega) (fun r hr => by
    have := rows4 r hr
    rw [x5 r (by omega) (by omega) (fun hr2 => by have := (rows3 _ hr2).2; omega), if_neg (by omega)])
  have oN5 : h5.obj h.nx = some (.row .rw 1 (b8 (List.replicate 32 0#8))) := by
    rw [x5 h.nx (by omega) (by omega) (fun hr => by have := (rows3 _ hr).1; omega), if_neg (by omega)]; exact oN4
  have F5 : Fr h.nx h h5 := FA.trans ⟨by omega, fun r hr => by rw [x5 r (by omega) (by omega) (fun hr2 => by have := (rows3 _ hr2).1; omega), if_neg (by omega)]⟩
  have hp5 : p3 < h5.nx := by omega
  repeat (first
    | refine R_seq ?_ | refine R_region ?_ | refine R_nil ?_ | refine Q_seq ?_ | refine Q_norm ?_ | refine Q_seqr ?_ | refine Q_seqx ?_ | refine Q_bl ?_ | refine Q_blr ?_ | refine Q_blx ?_ | refine Q_blo rfl ?_ | refine R_block ?_ | refine R_skip ?_ | refine R_exit ?_ | refine R_ret ?_ | refine I_true ?_ | refine I_false ?_ | refine N_exit ?_ | refine N_ret ?_
    | ((first | apply R_op | apply R_op0)
       · (first | (simp (maxDischargeDepth := 9) only [RA, Nat.reduceEqDiff, Nat.reduceLT, Nat.reduceLeDiff, Nat.reduceAdd, Nat.reduceSub, Nat.reduceMul, Nat.reduceDiv, Nat.reduceMod, Nat.reducePow, Nat.reduceBEq, Nat.reduceGT, reduceIte, T1, T3, T5, T30, T33, T38, T114, T120, T122, T134] <;> rfl) | ((repeat (first | (simp (maxDischargeDepth := 9) only [RA, Nat.reduceEqDiff, Nat.reduceLT, Nat.reduceLeDiff, Nat.reduceAdd, Nat.reduceSub, Nat.reduceMul, Nat.reduceDiv, Nat.reduceMod, Nat.reducePow, Nat.reduceBEq, Nat.reduceGT, reduceIte, T1, T3, T5, T30, T33, T38, T114, T120, T122, T134]; done) | simp (maxDischargeDepth := 9) only [RA, Nat.reduceEqDiff, Nat.reduceLT, Nat.reduceLeDiff, Nat.reduceAdd, Nat.reduceSub, Nat.reduceMul, Nat.reduceDiv, Nat.reduceMod, Nat.reducePow, Nat.reduceBEq, Nat.reduceGT, reduceIte, T1, T3, T5, T30, T33, T38, T114, T120, T122, T134] | simp (disch := first | assumption | omega) only [RV, T1, T3, T5, T30, T33, T38, T114, T120, T122, T134])) <;> rfl)))
    | (apply R_cond
       · (simp only [RE, Nat.reduceEqDiff, Nat.reduceLT, Nat.reduceLeDiff, Nat.reduceBEq, reduceIte, T1, T3, T5, T30, T33, T38, T114, T120, T122, T134] <;> rfl))
    | (apply R_grd
       · (simp only [yieldedA, RY, Nat.reduceEqDiff, reduceIte, T1, T3, T5, T30, T33, T38, T114, T120, T122, T134] <;> rfl)))
  refine R_fnv (g := 108) ?_ ?_ (sum108 q p3 h5 v5 _ o5 hp5 own5.sl (by rw [List.length_append, htl1]; omega)) ?_
  · first | rfl | (first | rw [ev_tmp] | rw [ev_const] | skip) <;> simp only [upd_apply, Nat.reduceEqDiff, if_true, if_false, reduceIte, lit_iv, lit_w8]
  · rfl
  intro u6 h6 ⟨hu6, F6⟩
  subst hu6
  have n6 := F6.1
  have hsl := sumS_len (turnB (padK key) 0x36#8 ++ b)
  have hp8 := fun (H : Heap) (p : Nat) => puts8 (h := H) (b := p) (es := 1) hsl (List.length_replicate (n := 32) (a := 0#8))
  generalize hinner : sumS (turnB (padK key) 0x36#8 ++ b) = inner at hsl hp8
  repeat (first
    | refine R_seq ?_ | refine R_region ?_ | refine R_nil ?_ | refine Q_seq ?_ | refine Q_norm ?_ | refine Q_seqr ?_ | refine Q_seqx ?_ | refine Q_bl ?_ | refine Q_blr ?_ | refine Q_blx ?_ | refine Q_blo rfl ?_ | refine R_block ?_ | refine R_skip ?_ | refine R_exit ?_ | refine R_ret ?_ | refine I_true ?_ | refine I_false ?_ | refine N_exit ?_ | refine N_ret ?_
    | ((first | apply R_op | apply R_op0)
       · (first | (simp (maxDischargeDepth := 9) only [RA, Nat.reduceEqDiff, Nat.reduceLT, Nat.reduceLeDiff, Nat.reduceAdd, Nat.reduceSub, Nat.reduceMul, Nat.reduceDiv, Nat.reduceMod, Nat.reducePow, Nat.reduceBEq, Nat.reduceGT, reduceIte, hp8, rep8, T1, T3, T5, T30, T33, T38, T114, T120, T122, T134] <;> rfl) | ((repeat (first | (simp (maxDischargeDepth := 9) only [RA, Nat.reduceEqDiff, Nat.reduceLT, Nat.reduceLeDiff, Nat.reduceAdd, Nat.reduceSub, Nat.reduceMul, Nat.reduceDiv, Nat.reduceMod, Nat.reducePow, Nat.reduceBEq, Nat.reduceGT, reduceIte, hp8, rep8, T1, T3, T5, T30, T33, T38, T114, T120, T122, T134]; done) | simp (maxDischargeDepth := 9) only [RA, Nat.reduceEqDiff, Nat.reduceLT, Nat.reduceLeDiff, Nat.reduceAdd, Nat.reduceSub, Nat.reduceMul, Nat.reduceDiv, Nat.reduceMod, Nat.reducePow, Nat.reduceBEq, Nat.reduceGT, reduceIte, hp8, rep8, T1, T3, T5, T30, T33, T38, T114, T120, T122, T134] | simp (disch := first | assumption | omega) only [RV, hp8, rep8, T1, T3, T5, T30, T33, T38, T114, T120, T122, T134])) <;> rfl)))
    | (apply R_cond
       · (simp only [RE, Nat.reduceEqDiff, Nat.reduceLT, Nat.reduceLeDiff, Nat.reduceBEq, reduceIte, hp8, rep8, T1, T3, T5, T30, T33, T38, T114, T120, T122, T134] <;> rfl))
    | (apply R_grd
       · (simp only [yieldedA, RY, Nat.reduceEqDiff, reduceIte, hp8, rep8, T1, T3, T5, T30, T33, T38, T114, T120, T122, T134] <;> rfl)))
  obtain ⟨H, hH⟩ : ∃ H, H = (newRowH h6 .rw 1 (b8 (List.replicate 32 0#8))).put h6.nx (some (AObj.row .rw 1 (b8 inner))) := ⟨_, rfl⟩
  rw [← hH]
  have oi : H.obj h6.nx = some (.row .rw 1 (b8 inner)) := by rw [hH]; simp [RH]
  have nHe : H.nx = h6.nx + 1 := by rw [hH]; simp [RH]
  have xH : ∀ r, r < h6.nx → H.obj r = h6.obj r := fun r hr => by
    have hr' : (r = h6.nx) = False := eq_false (by omega)
    rw [hH]; simp only [RH, hr', reduceIte]
  clear hH
  rw [← nHe]
  have o4H : H.obj p4 = some (.row .rw 1 [v4]) := by rw [xH _ (by omega), F6.2 _ (by omega)]; exact o45
  have own4H : OwB h3.nx H v4 (turnB (padK key) 0x5c#8) := own45.keep (by omega) (fun r hr => by
    have := rows4 r hr
    rw [xH _ (by omega), F6.2 _ (by omega)])
  have oNH : H.obj h.nx = some (.row .rw 1 (b8 (List.replicate 32 0#8))) := by rw [xH _ (by omega), F6.2 _ (by omega)]; exact oN5
  have FH : Fr h.nx h H := F5.trans ⟨by omega, fun r hr => by rw [xH _ (by omega), F6.2 _ (by omega)]⟩
  have c2 : catN (fun _ => inner) 1 = inner := catN1 inner
  have hput2 := put109 (q + 7) h3.nx p4 H.nx 1 (newRowH H .rw 1 [.slice (some ⟨h6.nx, 0, none⟩) 32 32]) v4 (turnB (padK key) 0x5c#8) [.slice (some ⟨h6.nx, 0, none⟩) 32 32] (fun _ => inner) (by rw [obj_new, if_neg (by omega)]; exact o4H) (by simp only [RH]; omega) own4H.new np4 (by simp only [RH]; omega) (by simp [RH]) (by simp only [RH]; omega) (by omega) (fun hr => by have := (rows4 _ hr).2; omega) rfl
    (fun j hj => by
      have hj0 : j = 0 := by omega
      subst hj0
      refine ⟨_, rfl, by_row (k := .rw) (by simp only [RH]; omega) (by rw [obj_new, if_neg (by omega)]; exact oi) (Nat.le_refl _) hsl, fun z hz => ?_⟩
      simp [rowsOfV] at hz
      subst hz
      exact ⟨by omega, fun hr => by have := (rows4 _ hr).2; omega⟩) (by rw [c2, htl2]; omega) (by decide)
  rw [c2] at hput2
  refine R_fnm (vals := [.slice (some ⟨H.nx, 0, none⟩) 1 1]) (p := fun _ h9 => ∃ v9, h9.obj p4 = some (.row .rw 1 [v9]) ∧ OwB h3.nx h9 v9 (turnB (padK key) 0x5c#8 ++ inner) ∧ p4 ∉ rowsOfV v9 ∧ H.nx + 1 ≤ h9.nx ∧ (∀ z, z < H.nx → z ≠ p4 → z ∉ rowsOfV v4 → h9.obj z = H.obj z)) (first := #[.pointer (some ⟨p4, 0, none⟩)]) inl109 iso109 ?_ ?_ ?_ ?_
  · first | rfl | (first | rw [ev_tmp] | rw [ev_const] | skip) <;> simp only [upd_apply, Nat.reduceEqDiff, if_true, if_false, reduceIte, lit_iv, lit_w8]
  · rfl
  · obtain ⟨u9, h9, e9, v9, o9, own9, np9, n9, x9, y9⟩ := hput2
    exact ⟨u9, h9, e9, v9, o9, own9, np9, by simpa only [RH] using n9, fun z h1 h2 h3 => by rw [x9 z (by simp only [RH]; omega) h2 h3, obj_new, if_neg (by omega)]⟩
  intro u9 h9 ⟨v9, o9, own9, np9, n9, x9⟩
  repeat (first
    | refine R_seq ?_ | refine R_region ?_ | refine R_nil ?_ | refine Q_seq ?_ | refine Q_norm ?_ | refine Q_seqr ?_ | refine Q_seqx ?_ | refine Q_bl ?_ | refine Q_blr ?_ | refine Q_blx ?_ | refine Q_blo rfl ?_ | refine R_block ?_ | refine R_skip ?_ | refine R_exit ?_ | refine R_ret ?_ | refine I_true ?_ | refine I_false ?_ | refine N_exit ?_ | refine N_ret ?_
    | ((first | apply R_op | apply R_op0)
       · (first | (simp (maxDischargeDepth := 9) only [RA, Nat.reduceEqDiff, Nat.reduceLT, Nat.reduceLeDiff, Nat.reduceAdd, Nat.reduceSub, Nat.reduceMul, Nat.reduceDiv, Nat.reduceMod, Nat.reducePow, Nat.reduceBEq, Nat.reduceGT, reduceIte, T1, T3, T5, T30, T33, T38, T114, T120, T122, T134] <;> rfl) | ((repeat (first | (simp (maxDischargeDepth := 9) only [RA, Nat.reduceEqDiff, Nat.reduceLT, Nat.reduceLeDiff, Nat.reduceAdd, Nat.reduceSub, Nat.reduceMul, Nat.reduceDiv, Nat.reduceMod, Nat.reducePow, Nat.reduceBEq, Nat.reduceGT, reduceIte, T1, T3, T5, T30, T33, T38, T114, T120, T122, T134]; done) | simp (maxDischargeDepth := 9) only [RA, Nat.reduceEqDiff, Nat.reduceLT, Nat.reduceLeDiff, Nat.reduceAdd, Nat.reduceSub, Nat.reduceMul, Nat.reduceDiv, Nat.reduceMod, Nat.reducePow, Nat.reduceBEq, Nat.reduceGT, reduceIte, T1, T3, T5, T30, T33, T38, T114, T120, T122, T134] | simp (disch := first | assumption | omega) only [RV, T1, T3, T5, T30, T33, T38, T114, T120, T122, T134])) <;> rfl)))
    | (apply R_cond
       · (simp only [RE, Nat.reduceEqDiff, Nat.reduceLT, Nat.reduceLeDiff, Nat.reduceBEq, reduceIte, T1, T3, T5, T30, T33, T38, T114, T120, T122, T134] <;> rfl))
    | (apply R_grd
       · (simp only [yieldedA, RY, Nat.reduceEqDiff, reduceIte, T1, T3, T5, T30, T33, T38, T114, T120, T122, T134] <;> rfl)))
  refine R_fnv (g := 108) ?_ ?_ (sum108 q p4 h9 v9 _ o9 (by omega) own9.sl (by rw [List.length_append, htl2]; omega)) ?_
  · first | rfl | (first | rw [ev_tmp] | rw [ev_const] | skip) <;> simp only [upd_apply, Nat.reduceEqDiff, if_true, if_false, reduceIte, lit_iv, lit_w8]
  · rfl
  intro u10 h10 ⟨hu10, F10⟩
  subst hu10
  have n10 := F10.1
  have oN10 : h10.obj h.nx = some (.row .rw 1 (b8 (List.replicate 32 0#8))) := by
    rw [F10.2 _ (by omega), x9 _ (by omega) (by omega) (fun hr => by have := (rows4 _ hr).1; omega)]; exact oNH
  have F11 : Fr h.nx h h10 := FH.trans ⟨by omega, fun r hr => by
    rw [F10.2 _ (by omega), x9 _ (by omega) (by omega) (fun hr2 => by have := (rows4 _ hr2).1; omega)]⟩
  have hout : sumS (turnB (padK key) 0x5c#8 ++ inner) = hmacS key b := by rw [← hinner]; unfold hmacS; rfl
  rw [hout]
  have hml := hmacS_length key b
  have hcm := fun (kd : Kind) (es : Nat) => cut8 (k := kd) (es := es) hml
  have hpm := fun (H : Heap) (p : Nat) => puts8 (h := H) (b := p) (es := 1) hml (List.length_replicate (n := 32) (a := 0#8))
  repeat (first
    | refine R_seq ?_ | refine R_region ?_ | refine R_nil ?_ | refine Q_seq ?_ | refine Q_norm ?_ | refine Q_seqr ?_ | refine Q_seqx ?_ | refine Q_bl ?_ | refine Q_blr ?_ | refine Q_blx ?_ | refine Q_blo rfl ?_ | refine R_block ?_ | refine R_skip ?_ | refine R_exit ?_ | refine R_ret ?_ | refine I_true ?_ | refine I_false ?_ | refine N_exit ?_ | refine N_ret ?_
    | ((first | apply R_op | apply R_op0)
       · (first | (simp (maxDischargeDepth := 9) only [RA, Nat.reduceEqDiff, Nat.reduceLT, Nat.reduceLeDiff, Nat.reduceAdd, Nat.reduceSub, Nat.reduceMul, Nat.reduceDiv, Nat.reduceMod, Nat.reducePow, Nat.reduceBEq, Nat.reduceGT, reduceIte, oN10, hpm, j4, T1, T3, T5, T30, T33, T38, T114, T120, T122, T134] <;> rfl) | ((repeat (first | (simp (maxDischargeDepth := 9) only [RA, Nat.reduceEqDiff, Nat.reduceLT, Nat.reduceLeDiff, Nat.reduceAdd, Nat.reduceSub, Nat.reduceMul, Nat.reduceDiv, Nat.reduceMod, Nat.reducePow, Nat.reduceBEq, Nat.reduceGT, reduceIte, oN10, hpm, j4, T1, T3, T5, T30, T33, T38, T114, T120, T122, T134]; done) | simp (maxDischargeDepth := 9) only [RA, Nat.reduceEqDiff, Nat.reduceLT, Nat.reduceLeDiff, Nat.reduceAdd, Nat.reduceSub, Nat.reduceMul, Nat.reduceDiv, Nat.reduceMod, Nat.reducePow, Nat.reduceBEq, Nat.reduceGT, reduceIte, oN10, hpm, j4, T1, T3, T5, T30, T33, T38, T114, T120, T122, T134] | simp (disch := first | assumption | omega) only [RV, oN10, hpm, j4, T1, T3, T5, T30, T33, T38, T114, T120, T122, T134])) <;> rfl)))
    | (apply R_cond
       · (simp only [RE, Nat.reduceEqDiff, Nat.reduceLT, Nat.reduceLeDiff, Nat.reduceBEq, reduceIte, oN10, hpm, j4, T1, T3, T5, T30, T33, T38, T114, T120, T122, T134] <;> rfl))
    | (apply R_grd
       · (simp only [yieldedA, RY, Nat.reduceEqDiff, reduceIte, oN10, hpm, j4, T1, T3, T5, T30, T33, T38, T114, T120, T122, T134] <;> rfl)))
  first | refine ⟨.inr rfl, ?_⟩ | refine ⟨.inl rfl, ?_⟩
  simp only [evResultList, evResult, ld30, RH, upd_apply, Nat.reduceEqDiff, reduceIte, hcm, j4, Option.map_some]
  exact ⟨_, rfl, rfl, F11.put (Nat.le_refl _) _⟩
end Go.Proofs.Ytfehhihllenjiaa
