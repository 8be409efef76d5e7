/- Tags: bytes that grow. -/
import Derived.Test.YtfehhihllenjiaaHh
import Derived.Test.YtfehhihllenjiaaC6
set_option linter.all false
namespace Go.Proofs.Ytfehhihllenjiaa
open Go.Proofs
def catN (ys : Nat → List (BitVec 8)) : Nat → List (BitVec 8)
  | 0 => []
  | k + 1 => catN ys k ++ ys k
theorem catN_le (ys : Nat → List (BitVec 8)) : ∀ {k n : Nat}, k ≤ n → (catN ys k).length ≤ (catN ys n).length
  | k, 0, h => by have : k = 0 := by omega
                  subst this; exact Nat.le_refl _
  | k, n + 1, h => by
    by_cases e : k = n + 1
    · subst e; exact Nat.le_refl _
    · have := catN_le ys (show k ≤ n by omega)
      simp only [catN, List.length_append]; omega
attribute [local irreducible] evOps iter evD evF evC evLoad evStore evAlloc evIndexAddr evIndex evLenB evBox evBin evUn evConvert evExtract evSlice evAppend evCopy evNil evBuild evMakeSlice evBuildSlice evBuiltin Program.underlying
attribute [local irreducible] catN sumS
theorem inl109 : inlOf Try.prog 109 = true := by kernel_rfl
theorem iso109 : isoOf Try.prog 109 = false := by kernel_rfl
set_option maxRecDepth 20000 in
set_option maxHeartbeats 8000000 in
theorem put109 (q lo p r n : Nat) (h : Heap) (v0 : Value) (xs : List (BitVec 8)) (ws : List Value) (ys : Nat → List (BitVec 8)) (hp : h.obj p = some (.row .rw 1 [v0])) (hpl : p < h.nx) (own0 : OwB lo h v0 xs) (hp0 : p ∉ rowsOfV v0) (hlo : lo ≤ h.nx)
    (hr : h.obj r = some (.row .rw 1 ws)) (hrl : r < h.nx) (hrp : r ≠ p) (hr0 : r ∉ rowsOfV v0) (hws : ws.length = n)
    (hw : ∀ i, i < n → ∃ w, ws[i]? = some w ∧ By h w (ys i) ∧ ∀ z ∈ rowsOfV w, z ≠ p ∧ z ∉ rowsOfV v0) (hle : xs.length + (catN ys n).length ≤ 4294967296) (hn : n < 4294967296) :
    ∃ v' h', fcall Try.prog (q + 1) (.func (.func 109) #[] #[]) [.pointer (some ⟨p, 0, none⟩), .slice (some ⟨r, 0, none⟩) n n] h = some (.ok v', h') ∧
      ∃ v1, h'.obj p = some (.row .rw 1 [v1]) ∧ OwB lo h' v1 (xs ++ catN ys n) ∧ p ∉ rowsOfV v1 ∧ h.nx ≤ h'.nx ∧ (∀ z, z < h.nx → z ≠ p → z ∉ rowsOfV v0 → h'.obj z = h.obj z) ∧ ∀ z ∈ rowsOfV v1, z ∈ rowsOfV v0 ∨ h.nx ≤ z := by
  rw [fcall_inl inl109 iso109, evF_eq Try.func109 rfl]
  apply evEnd_of_W
  simp only [Try.f109]
  repeat (first
    | refine R_seq ?_ | refine R_region ?_ | refine R_nil ?_ | refine Q_seq ?_ | refine Q_norm ?_ | refine Q_seqr ?_ | refine Q_seqx ?_ | refine Q_bl ?_ | refine Q_blr ?_ | refine Q_blx ?_ | refine Q_blo rfl ?_ | refine R_block ?_ | refine R_skip ?_ | refine R_exit ?_ | refine R_ret ?_ | refine I_true ?_ | refine I_false ?_ | refine N_exit ?_ | refine N_ret ?_
    | (refine R_draw (by kernel_rfl) ?_)
    | ((first | apply R_op | apply R_op0)
       · (first | (simp (maxDischargeDepth := 9) only [RA, Nat.reduceEqDiff, Nat.reduceLT, Nat.reduceLeDiff, Nat.reduceAdd, Nat.reduceSub, Nat.reduceMul, Nat.reduceDiv, Nat.reduceMod, Nat.reducePow, Nat.reduceBEq, Nat.reduceGT, reduceIte, T3, T38, T120, T134] <;> rfl) | ((repeat (first | (simp (maxDischargeDepth := 9) only [RA, Nat.reduceEqDiff, Nat.reduceLT, Nat.reduceLeDiff, Nat.reduceAdd, Nat.reduceSub, Nat.reduceMul, Nat.reduceDiv, Nat.reduceMod, Nat.reducePow, Nat.reduceBEq, Nat.reduceGT, reduceIte, T3, T38, T120, T134]; done) | simp (maxDischargeDepth := 9) only [RA, Nat.reduceEqDiff, Nat.reduceLT, Nat.reduceLeDiff, Nat.reduceAdd, Nat.reduceSub, Nat.reduceMul, Nat.reduceDiv, Nat.reduceMod, Nat.reducePow, Nat.reduceBEq, Nat.reduceGT, reduceIte, T3, T38, T120, T134] | simp (disch := first | assumption | omega) only [RV, T3, T38, T120, T134])) <;> rfl)))
    | (apply R_cond
       · (simp only [RE, Nat.reduceEqDiff, Nat.reduceLT, Nat.reduceLeDiff, Nat.reduceBEq, reduceIte, T3, T38, T120, T134] <;> rfl))
    | (apply R_grd
       · (simp only [yieldedA, RY, Nat.reduceEqDiff, reduceIte, T3, T38, T120, T134] <;> rfl)))
  refine W_loopK [0, 6, 7] [] (fun k e1 h1 => e1 8 = iv k ∧ ∃ v1, h1.obj p = some (.row .rw 1 [v1]) ∧ OwB lo h1 v1 (xs ++ catN ys k) ∧ p ∉ rowsOfV v1 ∧ (∀ z, z < h.nx → z ≠ p → z ∉ rowsOfV v0 → h1.obj z = h.obj z) ∧ ∀ z ∈ rowsOfV v1, z ∈ rowsOfV v0 ∨ h.nx ≤ z) n (by omega) ?_ ?_ ?_
  · refine ⟨by (try simp only [List.map_cons, List.map_nil, RH, Nat.reduceAdd, Nat.reduceEqDiff, reduceIte, ev_tmp, ev_const, lit_iv, lit_w8, lit_w32, lit_w64, envOf0, envOf1, envOf2, envOf3, envOf4, envOf5, T3, T38, T120, T134]), v0, hp, ?_, hp0, fun _ _ _ _ => rfl, fun z hz => .inl hz⟩
    unfold catN; simpa using own0
  · intro k hk e1 h1 hK hO hN ⟨j8, v1, o1, own1, hp1, x1, y1⟩
    simp only [List.map_cons, List.map_nil, List.cons.injEq, and_true, RH, Nat.reduceAdd, Nat.reduceEqDiff, reduceIte, envOf0, envOf1, envOf2, envOf3, envOf4, envOf5] at hK
    obtain ⟨K0_0, K0_6, K0_7⟩ := hK
    try simp only [RH] at hN
    obtain ⟨w, hwk, bw, zw⟩ := hw k hk
    have or1 : h1.obj r = some (.row .rw 1 ws) := (x1 r hrl hrp hr0).trans hr
    have bw1 : By h1 w (ys k) := bw.keep hN (fun z hz => x1 z (bw.lt z hz) (zw z hz).1 (zw z hz).2)
    have hlk := catN_le ys (show k + 1 ≤ n by omega)
    have hck : catN ys (k + 1) = catN ys k ++ ys k := by
      conv => lhs; unfold catN
    rw [hck, List.length_append] at hlk
    repeat (first
      | refine R_seq ?_ | refine R_region ?_ | refine R_nil ?_ | refine Q_seq ?_ | refine Q_norm ?_ | refine Q_seqr ?_ | refine Q_seqx ?_ | refine Q_bl ?_ | refine Q_blr ?_ | refine Q_blx ?_ | refine Q_blo rfl ?_ | refine R_block ?_ | refine R_skip ?_ | refine R_exit ?_ | refine R_ret ?_ | refine I_true ?_ | refine I_false ?_ | refine N_exit ?_ | refine N_ret ?_
      | (refine R_draw (by kernel_rfl) ?_)
      | ((first | apply R_op | apply R_op0)
         · (first | (simp (maxDischargeDepth := 9) only [RA, Nat.reduceEqDiff, Nat.reduceLT, Nat.reduceLeDiff, Nat.reduceAdd, Nat.reduceSub, Nat.reduceMul, Nat.reduceDiv, Nat.reduceMod, Nat.reducePow, Nat.reduceBEq, Nat.reduceGT, reduceIte, j8, hk, or1, hwk, o1, T3, T38, T120, T134, K0_0, K0_6, K0_7] <;> rfl) | ((repeat (first | (simp (maxDischargeDepth := 9) only [RA, Nat.reduceEqDiff, Nat.reduceLT, Nat.reduceLeDiff, Nat.reduceAdd, Nat.reduceSub, Nat.reduceMul, Nat.reduceDiv, Nat.reduceMod, Nat.reducePow, Nat.reduceBEq, Nat.reduceGT, reduceIte, j8, hk, or1, hwk, o1, T3, T38, T120, T134, K0_0, K0_6, K0_7]; done) | simp (maxDischargeDepth := 9) only [RA, Nat.reduceEqDiff, Nat.reduceLT, Nat.reduceLeDiff, Nat.reduceAdd, Nat.reduceSub, Nat.reduceMul, Nat.reduceDiv, Nat.reduceMod, Nat.reducePow, Nat.reduceBEq, Nat.reduceGT, reduceIte, j8, hk, or1, hwk, o1, T3, T38, T120, T134, K0_0, K0_6, K0_7] | simp (disch := first | assumption | omega) only [RV, j8, hk, or1, hwk, o1, T3, T38, T120, T134, K0_0, K0_6, K0_7])) <;> rfl)))
      | (apply R_cond
         · (simp only [RE, Nat.reduceEqDiff, Nat.reduceLT, Nat.reduceLeDiff, Nat.reduceBEq, reduceIte, j8, hk, or1, hwk, o1, T3, T38, T120, T134, K0_0, K0_6, K0_7] <;> rfl))
      | (apply R_grd
         · (simp only [yieldedA, RY, Nat.reduceEqDiff, reduceIte, j8, hk, or1, hwk, o1, T3, T38, T120, T134, K0_0, K0_6, K0_7] <;> rfl)))
    refine R_app E38 Try.underlying38 (v := v1) (w := w) (lo := lo) (xs := xs ++ catN ys k) (ys := ys k) ?_ ?_ own1 bw1 (by omega) (by rw [List.length_append]; omega) ?_
    · first | rfl | (first | rw [ev_tmp] | rw [ev_const] | skip) <;> simp only [upd_apply, Nat.reduceEqDiff, if_true, if_false, reduceIte, lit_iv, lit_w8, K0_0, K0_6, K0_7]
    · first | rfl | (first | rw [ev_tmp] | rw [ev_const] | skip) <;> simp only [upd_apply, Nat.reduceEqDiff, if_true, if_false, reduceIte, lit_iv, lit_w8, K0_0, K0_6, K0_7]
    intro v2 h2 own2 wt2
    rw [List.append_assoc, ← hck] at own2
    obtain ⟨a2, c2, hv2⟩ := sl_shape own2.sl
    have op2 : h2.obj p = some (.row .rw 1 [v1]) := (wt2.rest p (by omega) hp1).trans o1
    have hp2 := wt2.not hp1 (by omega)
    have n2 := wt2.nx
    have y2 : ∀ z ∈ rowsOfV v2, z ∈ rowsOfV v0 ∨ h.nx ≤ z := fun z hz => by
      rcases wt2.rows z hz with h9 | h9
      · exact y1 z h9
      · exact .inr (by omega)
    have x2 : ∀ z, z < h.nx → z ≠ p → z ∉ rowsOfV v0 → h2.obj z = h.obj z := fun z h3 h4 h5 => by
      rw [wt2.rest z (by omega) (fun hm => by rcases y1 z hm with h9 | h9; exact h5 h9; omega)]
      exact x1 z h3 h4 h5
    rw [hv2] at own2 hp2 y2 ⊢
    repeat (first
      | refine R_seq ?_ | refine R_region ?_ | refine R_nil ?_ | refine Q_seq ?_ | refine Q_norm ?_ | refine Q_seqr ?_ | refine Q_seqx ?_ | refine Q_bl ?_ | refine Q_blr ?_ | refine Q_blx ?_ | refine Q_blo rfl ?_ | refine R_block ?_ | refine R_skip ?_ | refine R_exit ?_ | refine R_ret ?_ | refine I_true ?_ | refine I_false ?_ | refine N_exit ?_ | refine N_ret ?_
      | ((first | apply R_op | apply R_op0)
         · (first | (simp (maxDischargeDepth := 9) only [RA, Nat.reduceEqDiff, Nat.reduceLT, Nat.reduceLeDiff, Nat.reduceAdd, Nat.reduceSub, Nat.reduceMul, Nat.reduceDiv, Nat.reduceMod, Nat.reducePow, Nat.reduceBEq, Nat.reduceGT, reduceIte, op2, j8, T3, T38, T120, T134, K0_0, K0_6, K0_7] <;> rfl) | ((repeat (first | (simp (maxDischargeDepth := 9) only [RA, Nat.reduceEqDiff, Nat.reduceLT, Nat.reduceLeDiff, Nat.reduceAdd, Nat.reduceSub, Nat.reduceMul, Nat.reduceDiv, Nat.reduceMod, Nat.reducePow, Nat.reduceBEq, Nat.reduceGT, reduceIte, op2, j8, T3, T38, T120, T134, K0_0, K0_6, K0_7]; done) | simp (maxDischargeDepth := 9) only [RA, Nat.reduceEqDiff, Nat.reduceLT, Nat.reduceLeDiff, Nat.reduceAdd, Nat.reduceSub, Nat.reduceMul, Nat.reduceDiv, Nat.reduceMod, Nat.reducePow, Nat.reduceBEq, Nat.reduceGT, reduceIte, op2, j8, T3, T38, T120, T134, K0_0, K0_6, K0_7] | simp (disch := first | assumption | omega) only [RV, op2, j8, T3, T38, T120, T134, K0_0, K0_6, K0_7])) <;> rfl)))
      | (apply R_cond
         · (simp only [RE, Nat.reduceEqDiff, Nat.reduceLT, Nat.reduceLeDiff, Nat.reduceBEq, reduceIte, op2, j8, T3, T38, T120, T134, K0_0, K0_6, K0_7] <;> rfl))
      | (apply R_grd
         · (simp only [yieldedA, RY, Nat.reduceEqDiff, reduceIte, op2, j8, T3, T38, T120, T134, K0_0, K0_6, K0_7] <;> rfl)))
    refine ⟨rfl, by first | rfl | first | rfl | (first | rw [ev_tmp] | rw [ev_const] | skip) <;> simp only [upd_apply, Nat.reduceEqDiff, if_true, if_false, reduceIte, lit_iv, lit_w8, K0_0, K0_6, K0_7], rfl, by simp only [RH]; omega, by (try simp only [List.map_cons, List.map_nil, RH, Nat.reduceAdd, Nat.reduceEqDiff, reduceIte, ev_tmp, ev_const, lit_iv, lit_w8, lit_w32, lit_w64, envOf0, envOf1, envOf2, envOf3, envOf4, envOf5, T3, T38, T120, T134, K0_0, K0_6, K0_7]), .slice a2 (xs ++ catN ys (k + 1)).length c2, ?_, ?_, hp2, ?_, y2⟩
    · simp only [RH]
    · exact Ow.putR own2 hp2
    · intro z h3 h4 h5
      rw [obj_put, if_neg h4]
      exact x2 z h3 h4 h5
  · intro e1 h1 hK hO hN ⟨j8, v1, o1, own1, hp1, x1, y1⟩
    simp only [List.map_cons, List.map_nil, List.cons.injEq, and_true, RH, Nat.reduceAdd, Nat.reduceEqDiff, reduceIte, envOf0, envOf1, envOf2, envOf3, envOf4, envOf5] at hK
    obtain ⟨K0_0, K0_6, K0_7⟩ := hK
    try simp only [RH] at hN
    repeat (first
      | refine R_seq ?_ | refine R_region ?_ | refine R_nil ?_ | refine Q_seq ?_ | refine Q_norm ?_ | refine Q_seqr ?_ | refine Q_seqx ?_ | refine Q_bl ?_ | refine Q_blr ?_ | refine Q_blx ?_ | refine Q_blo rfl ?_ | refine R_block ?_ | refine R_skip ?_ | refine R_exit ?_ | refine R_ret ?_ | refine I_true ?_ | refine I_false ?_ | refine N_exit ?_ | refine N_ret ?_
      | (refine R_draw (by kernel_rfl) ?_)
      | ((first | apply R_op | apply R_op0)
         · (first | (simp (maxDischargeDepth := 9) only [RA, Nat.reduceEqDiff, Nat.reduceLT, Nat.reduceLeDiff, Nat.reduceAdd, Nat.reduceSub, Nat.reduceMul, Nat.reduceDiv, Nat.reduceMod, Nat.reducePow, Nat.reduceBEq, Nat.reduceGT, reduceIte, j8, T3, T38, T120, T134, K0_0, K0_6, K0_7] <;> rfl) | ((repeat (first | (simp (maxDischargeDepth := 9) only [RA, Nat.reduceEqDiff, Nat.reduceLT, Nat.reduceLeDiff, Nat.reduceAdd, Nat.reduceSub, Nat.reduceMul, Nat.reduceDiv, Nat.reduceMod, Nat.reducePow, Nat.reduceBEq, Nat.reduceGT, reduceIte, j8, T3, T38, T120, T134, K0_0, K0_6, K0_7]; done) | simp (maxDischargeDepth := 9) only [RA, Nat.reduceEqDiff, Nat.reduceLT, Nat.reduceLeDiff, Nat.reduceAdd, Nat.reduceSub, Nat.reduceMul, Nat.reduceDiv, Nat.reduceMod, Nat.reducePow, Nat.reduceBEq, Nat.reduceGT, reduceIte, j8, T3, T38, T120, T134, K0_0, K0_6, K0_7] | simp (disch := first | assumption | omega) only [RV, j8, T3, T38, T120, T134, K0_0, K0_6, K0_7])) <;> rfl)))
      | (apply R_cond
         · (simp only [RE, Nat.reduceEqDiff, Nat.reduceLT, Nat.reduceLeDiff, Nat.reduceBEq, reduceIte, j8, T3, T38, T120, T134, K0_0, K0_6, K0_7] <;> rfl))
      | (apply R_grd
         · (simp only [yieldedA, RY, Nat.reduceEqDiff, reduceIte, j8, T3, T38, T120, T134, K0_0, K0_6, K0_7] <;> rfl)))
    exact ⟨.inl rfl, _, rfl, v1, o1, own1, hp1, hN, x1, y1⟩
end Go.Proofs.Ytfehhihllenjiaa
