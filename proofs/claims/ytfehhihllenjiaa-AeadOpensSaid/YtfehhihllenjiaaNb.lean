/- The document's one-time tags: a number modulo the prime. -/
import Derived.Test.YtfehhihllenjiaaNa
set_option linter.all false
namespace Go.Proofs.Ytfehhihllenjiaa
open Go.Proofs
theorem low17_eq (ys : List Nat) : ((List.range 17).map fun i => ys.getD i 0).set 16 (ys.getD 16 0 % 4) = low17 ys := by
  unfold low17
  rw [show (17 : Nat) = 16 + 1 from rfl, List.range_succ, List.map_append, List.set_append_right _ _ (by simp)]
  simp
theorem low17_length (ys : List Nat) : (low17 ys).length = 17 := by simp [low17]
theorem low17_le {ys : List Nat} (h : ∀ y ∈ ys, y < 256) : ∀ x ∈ low17 ys, x ≤ 255 := by
  intro x hx
  unfold low17 at hx
  have g : ∀ i, ys.getD i 0 ≤ 255 := fun i => getD_le (fun y hy => by have := h y hy; omega) i
  rcases List.mem_append.1 hx with h1 | h1
  · obtain ⟨i, _, rfl⟩ := List.mem_map.1 h1
    exact g i
  · rw [List.mem_singleton] at h1
    have := g 16
    omega
theorem range_snoc (f : Nat → Nat) (k : Nat) : ((List.range k).map f) ++ [f k] = (List.range (k + 1)).map f := by
  rw [List.range_succ, List.map_append]; rfl
def fiveL (ys : List Nat) (k : Nat) : List Nat := if k = 0 then [5] else (5 + ys.getD 0 0) :: (List.range (k - 1)).map (fun i => ys.getD (i + 1) 0)
theorem fiveL_zero (ys : List Nat) : fiveL ys 0 = [5] := rfl
theorem fiveL_one (ys : List Nat) : fiveL ys 1 = [5 + ys.getD 0 0] := rfl
theorem fiveL_succ (ys : List Nat) {k : Nat} (hk : 0 < k) : fiveL ys k ++ [ys.getD k 0] = fiveL ys (k + 1) := by
  unfold fiveL
  rw [if_neg (by omega), if_neg (by omega), List.cons_append, show k + 1 - 1 = (k - 1) + 1 by omega, List.range_succ, List.map_append]
  simp only [List.map_cons, List.map_nil, show k - 1 + 1 = k by omega]
theorem fiveL_length (ys : List Nat) {k : Nat} : (fiveL ys k).length = if k = 0 then 1 else k := by
  unfold fiveL
  split
  · rfl
  · simp; omega
theorem fiveL_V (ys : List Nat) : leV (fiveL ys 17) = leV ((List.range 17).map fun i => ys.getD i 0) + 5 := by
  have e : (List.range 17).map (fun i => ys.getD i 0) = ys.getD 0 0 :: (List.range 16).map (fun i => ys.getD (i + 1) 0) := by
    rw [List.range_succ_eq_map, List.map_cons, List.map_map]; rfl
  rw [e]
  unfold fiveL
  rw [if_neg (by decide), leV_cons, leV_cons, show 17 - 1 = 16 from rfl]
  omega
theorem fiveL_le {ys : List Nat} (h : ∀ y ∈ ys, y < 256) (k : Nat) : ∀ x ∈ fiveL ys k, x ≤ 260 := by
  intro x hx
  have g : ∀ i, ys.getD i 0 ≤ 255 := fun i => getD_le (fun y hy => by have := h y hy; omega) i
  unfold fiveL at hx
  split at hx
  · rw [List.mem_singleton] at hx; omega
  · rcases List.mem_cons.1 hx with h1 | h1
    · have := g 0; omega
    · obtain ⟨i, _, rfl⟩ := List.mem_map.1 h1
      have := g (i + 1); omega
theorem redR_pos {V n j : Nat} (h : n = redR V + j) (hj : j < n) : Q130 ≤ V := by
  rcases Nat.lt_or_ge V Q130 with h1 | h1
  · rw [redR_low h1] at h; omega
  · exact h1
theorem redR_zero {V n : Nat} (h : n = redR V + n) : V < Q130 := by
  rcases Nat.lt_or_ge V Q130 with h1 | h1
  · exact h1
  · rw [redR_high h1] at h; omega
/-- The row in which what is above is added. -/
structure LowAt (ys lw : List Nat) (k : Nat) : Prop where
  V : leV lw = leV (low17 ys) + 5 * highS ys k
  len : lw.length = max 17 k
  le : ∀ x ∈ lw, x ≤ 255 + 1275 * k
theorem LowAt.zero {ys : List Nat} (h : ∀ y ∈ ys, y < 256) : LowAt ys (low17 ys) 0 := ⟨by simp [highS], low17_length ys, fun x hx => by have := low17_le h x hx; omega⟩
theorem LowAt.next {ys lw : List Nat} {k : Nat} (s : LowAt ys lw k) {hi : Nat} (hh : hi = ys.getD (16 + k) 0 / 4 + ys.getD (16 + k + 1) 0 % 4 * 64) (hb : hi ≤ 255) :
    LowAt ys ((lw ++ List.replicate (k + 1 - lw.length) 0).set k ((lw ++ List.replicate (k + 1 - lw.length) 0).getD k 0 + 5 * hi)) (k + 1) := by
  have hl := s.len
  have hlen : (lw ++ List.replicate (k + 1 - lw.length) 0).length = max 17 (k + 1) := by rw [List.length_append, List.length_replicate]; omega
  have hle : ∀ x ∈ lw ++ List.replicate (k + 1 - lw.length) 0, x ≤ 255 + 1275 * k := fun x hx => by
    rcases List.mem_append.1 hx with h1 | h1
    · exact s.le x h1
    · have := List.eq_of_mem_replicate h1; omega
  refine ⟨?_, by rw [List.length_set]; exact hlen, ?_⟩
  · rw [leV_set _ _ _ (by omega), leV_append, leV_zeros, s.V, highS_succ, ← hh, Nat.mul_add, Nat.mul_left_comm 5]
    omega
  · have := getD_le hle k
    exact mem_set_le (fun x hx => by have := hle x hx; omega) (by omega)
attribute [local irreducible] evOps iter evD evF evC evLoad evStore evAlloc evIndexAddr evIndex evLenB evBox evBin evUn evConvert evExtract evSlice evAppend evCopy evNil evBuild evMakeSlice evBuildSlice evBuiltin Program.underlying
attribute [local irreducible] carryL leV aboveL highS low17 fiveL
theorem inl106 : inlOf Try.prog 106 = true := by kernel_rfl
theorem iso106 : isoOf Try.prog 106 = false := by kernel_rfl
set_option maxRecDepth 20000 in
set_option maxHeartbeats 8000000 in
theorem reduced106 (q : Nat) (h : Heap) (v : Value) (xs : List Nat) (hb : Iv h v xs) (hx : ∀ x ∈ xs, x < 256) (hl : xs.length ≤ 43) :
    ∃ v' h', fcall Try.prog (q + 2) (.func (.func 106) #[] #[]) [v] h = some (.ok v', h') ∧ (∃ ys, Iv h' v' ys ∧ (∀ y ∈ ys, y < 256) ∧ ys.length ≤ 43 ∧ leV ys = leV xs % P130) ∧ Fr h.nx h h' := by
  rw [fcall_inl inl106 iso106, evF_eq Try.func106 rfl]
  apply evEnd_of_W
  simp only [Try.f106]
  have hVl : leV xs < 256 ^ 43 := by
    have h1 := leV_lt hx
    have h2 : (256 : Nat) ^ xs.length ≤ 256 ^ 43 := Nat.pow_le_pow_right (by decide) hl
    exact Nat.lt_of_lt_of_le h1 h2
  have hrl := redR_le hVl
  repeat (first
    | refine R_seq ?_ | refine R_region ?_ | refine R_nil ?_ | refine Q_seq ?_ | refine Q_norm ?_ | refine Q_seqr ?_ | refine Q_seqx ?_ | refine Q_bl ?_ | refine Q_blr ?_ | refine Q_blx ?_ | refine Q_blo rfl ?_ | refine R_block ?_ | refine R_skip ?_ | refine R_exit ?_ | refine R_ret ?_ | refine I_true ?_ | refine I_false ?_ | refine N_exit ?_ | refine N_ret ?_
    | ((first | apply R_op | apply R_op0)
       · ((repeat (first | simp (maxDischargeDepth := 9) only [RA, Nat.reduceEqDiff, Nat.reduceLT, Nat.reduceLeDiff, Nat.reduceAdd, Nat.reduceSub, Nat.reduceMul, Nat.reduceDiv, Nat.reduceMod, Nat.reducePow, Nat.reduceBEq, Nat.reduceGT, reduceIte, T1, T3, T4, T111] | simp (disch := first | assumption | omega) only [RV])) <;> rfl))
    | (apply R_cond
       · (simp only [RE, Nat.reduceEqDiff, Nat.reduceLT, Nat.reduceLeDiff, Nat.reduceBEq, reduceIte] <;> rfl))
    | (apply R_grd
       · (simp only [yieldedA, RY, Nat.reduceEqDiff, reduceIte] <;> rfl)))
  refine W_loopK [] [] (fun j e1 h1 => Fr h.nx h h1 ∧ ∃ ys, Iv h1 (e1 0) ys ∧ (∀ y ∈ ys, y < 256) ∧ ys.length ≤ 43 ∧ redR (leV xs) = redR (leV ys) + j ∧ leV ys % P130 = leV xs % P130) (redR (leV xs)) (by omega) ?_ ?_ ?_
  · exact ⟨.refl _ _, xs, by (try simp only [List.map_cons, List.map_nil, RH, Nat.reduceAdd, Nat.reduceEqDiff, reduceIte, ev_tmp, ev_const, lit_iv, lit_w8, lit_w32, lit_w64, envOf0, envOf1, envOf2, envOf3, envOf4, envOf5, T1, T3, T4, T111]); exact hb, hx, hl, rfl, rfl⟩
  · intro j hj e1 h1 hK hO hN ⟨F1, ys, b1, hy, hyl, hR, hP⟩
    try simp only [RH] at hN
    have hV := redR_pos hR hj
    have hab := (aboveL_iff hy).2 hV
    have hyl17 : 17 ≤ ys.length := by
      rcases Nat.lt_or_ge ys.length 17 with h9 | h9
      · have h8 : aboveL ys (ys.length - 16) = false := by rw [show ys.length - 16 = 0 by omega]; unfold aboveL; rfl
        rw [h8] at hab; cases hab
      · exact h9
    repeat (first
      | refine R_seq ?_ | refine R_region ?_ | refine R_nil ?_ | refine Q_seq ?_ | refine Q_norm ?_ | refine Q_seqr ?_ | refine Q_seqx ?_ | refine Q_bl ?_ | refine Q_blr ?_ | refine Q_blx ?_ | refine Q_blo rfl ?_ | refine R_block ?_ | refine R_skip ?_ | refine R_exit ?_ | refine R_ret ?_ | refine I_true ?_ | refine I_false ?_ | refine N_exit ?_ | refine N_ret ?_
      | ((first | apply R_op | apply R_op0)
         · ((repeat (first | simp (maxDischargeDepth := 9) only [RA, Nat.reduceEqDiff, Nat.reduceLT, Nat.reduceLeDiff, Nat.reduceAdd, Nat.reduceSub, Nat.reduceMul, Nat.reduceDiv, Nat.reduceMod, Nat.reducePow, Nat.reduceBEq, Nat.reduceGT, reduceIte, T1, T3, T4, T111] | simp (disch := first | assumption | omega) only [RV])) <;> rfl))
      | (apply R_cond
         · (simp only [RE, Nat.reduceEqDiff, Nat.reduceLT, Nat.reduceLeDiff, Nat.reduceBEq, reduceIte] <;> rfl))
      | (apply R_grd
         · (simp only [yieldedA, RY, Nat.reduceEqDiff, reduceIte] <;> rfl)))
    refine W_loopK [0] [] (fun k e2 h2 => e2 4 = iv (16 + k) ∧ e2 3 = .bool (aboveL ys k) ∧ h2 = h1) (ys.length - 16) (by omega) ?_ ?_ ?_
    · exact ⟨by (try simp only [List.map_cons, List.map_nil, RH, Nat.reduceAdd, Nat.reduceEqDiff, reduceIte, ev_tmp, ev_const, lit_iv, lit_w8, lit_w32, lit_w64, envOf0, envOf1, envOf2, envOf3, envOf4, envOf5, T1, T3, T4, T111]), by (try simp only [List.map_cons, List.map_nil, RH, Nat.reduceAdd, Nat.reduceEqDiff, reduceIte, ev_tmp, ev_const, lit_iv, lit_w8, lit_w32, lit_w64, envOf0, envOf1, envOf2, envOf3, envOf4, envOf5, T1, T3, T4, T111]); unfold aboveL; rfl, rfl⟩
    · intro k hk e2 h2 hK hO hN ⟨j4, j3, hh⟩
      subst hh
      simp only [List.map_cons, List.map_nil, List.cons.injEq, and_true, RH, Nat.reduceAdd, Nat.reduceEqDiff, reduceIte, envOf0, envOf1, envOf2, envOf3, envOf4, envOf5] at hK
      have K1_0 := hK
      try simp only [RH] at hN
      have hk16 : 16 + k < ys.length := by omega
      have hld := iv_ld Try.underlying3 inf3 b1 fr_refl hk16
      have hia := S111ia b1 hk16
      have hab1 := aboveL_succ ys k
      generalize ys.getD (16 + k) 0 = x at hld hab1
      rcases hbk : aboveL ys k with _ | _
      · rw [hbk] at j3 hab1
        by_cases h0 : 0 < x
        · by_cases h16 : 16 < 16 + k
          · rw [decide_eq_true h0, decide_eq_true h16] at hab1
            have hv : aboveL ys (k + 1) = true := hab1
            repeat (first
              | refine R_seq ?_ | refine R_region ?_ | refine R_nil ?_ | refine Q_seq ?_ | refine Q_norm ?_ | refine Q_seqr ?_ | refine Q_seqx ?_ | refine Q_bl ?_ | refine Q_blr ?_ | refine Q_blx ?_ | refine Q_blo rfl ?_ | refine R_block ?_ | refine R_skip ?_ | refine R_exit ?_ | refine R_ret ?_ | refine I_true ?_ | refine I_false ?_ | refine N_exit ?_ | refine N_ret ?_
              | ((first | apply R_op | apply R_op0)
                 · ((repeat (first | simp (maxDischargeDepth := 9) only [RA, Nat.reduceEqDiff, Nat.reduceLT, Nat.reduceLeDiff, Nat.reduceAdd, Nat.reduceSub, Nat.reduceMul, Nat.reduceDiv, Nat.reduceMod, Nat.reducePow, Nat.reduceBEq, Nat.reduceGT, reduceIte, j4, j3, S111len b1, hk16, hia, hld, eq_true h0, eq_true h16, T1, T3, T4, T111, K1_0] | simp (disch := first | assumption | omega) only [RV, j4, j3, S111len b1, hk16, hia, hld, eq_true h0, eq_true h16, K1_0])) <;> rfl))
              | (apply R_cond
                 · (simp only [RE, Nat.reduceEqDiff, Nat.reduceLT, Nat.reduceLeDiff, Nat.reduceBEq, reduceIte] <;> rfl))
              | (apply R_grd
                 · (simp only [yieldedA, RY, Nat.reduceEqDiff, reduceIte] <;> rfl))
              | (apply R_grdN
                 · (simp only [yieldedA, RY, Nat.reduceEqDiff, reduceIte] <;> rfl)))
            refine ⟨rfl, by first | rfl | simp only [List.map_cons, List.map_nil, RH, Nat.reduceAdd, Nat.reduceEqDiff, reduceIte, T1, T3, T4, T111, K1_0], by first | rfl | simp only [List.map_cons, List.map_nil, RH, Nat.reduceAdd, Nat.reduceEqDiff, reduceIte, T1, T3, T4, T111, K1_0], by first | (simp only [RH, T1, T3, T4, T111, K1_0]; done) | ((try simp only [RH, T1, T3, T4, T111, K1_0]); omega), ?_⟩
            exact ⟨by (try simp only [List.map_cons, List.map_nil, RH, Nat.reduceAdd, Nat.reduceEqDiff, reduceIte, ev_tmp, ev_const, lit_iv, lit_w8, lit_w32, lit_w64, envOf0, envOf1, envOf2, envOf3, envOf4, envOf5, T1, T3, T4, T111, K1_0]); rfl, by (try simp only [List.map_cons, List.map_nil, RH, Nat.reduceAdd, Nat.reduceEqDiff, reduceIte, ev_tmp, ev_const, lit_iv, lit_w8, lit_w32, lit_w64, envOf0, envOf1, envOf2, envOf3, envOf4, envOf5, T1, T3, T4, T111, K1_0]); rw [hv], rfl⟩
          · by_cases h3 : 3 < x
            · rw [decide_eq_true h0, decide_eq_false h16, decide_eq_true h3] at hab1
              have hv : aboveL ys (k + 1) = true := hab1
              repeat (first
                | refine R_seq ?_ | refine R_region ?_ | refine R_nil ?_ | refine Q_seq ?_ | refine Q_norm ?_ | refine Q_seqr ?_ | refine Q_seqx ?_ | refine Q_bl ?_ | refine Q_blr ?_ | refine Q_blx ?_ | refine Q_blo rfl ?_ | refine R_block ?_ | refine R_skip ?_ | refine R_exit ?_ | refine R_ret ?_ | refine I_true ?_ | refine I_false ?_ | refine N_exit ?_ | refine N_ret ?_
                | ((first | apply R_op | apply R_op0)
                   · ((repeat (first | simp (maxDischargeDepth := 9) only [RA, Nat.reduceEqDiff, Nat.reduceLT, Nat.reduceLeDiff, Nat.reduceAdd, Nat.reduceSub, Nat.reduceMul, Nat.reduceDiv, Nat.reduceMod, Nat.reducePow, Nat.reduceBEq, Nat.reduceGT, reduceIte, j4, j3, S111len b1, hk16, hia, hld, eq_true h0, eq_false h16, eq_true h3, T1, T3, T4, T111, K1_0] | simp (disch := first | assumption | omega) only [RV, j4, j3, S111len b1, hk16, hia, hld, eq_true h0, eq_false h16, eq_true h3, K1_0])) <;> rfl))
                | (apply R_cond
                   · (simp only [RE, Nat.reduceEqDiff, Nat.reduceLT, Nat.reduceLeDiff, Nat.reduceBEq, reduceIte] <;> rfl))
                | (apply R_grd
                   · (simp only [yieldedA, RY, Nat.reduceEqDiff, reduceIte] <;> rfl))
                | (apply R_grdN
                   · (simp only [yieldedA, RY, Nat.reduceEqDiff, reduceIte] <;> rfl)))
              refine ⟨rfl, by first | rfl | simp only [List.map_cons, List.map_nil, RH, Nat.reduceAdd, Nat.reduceEqDiff, reduceIte, T1, T3, T4, T111, K1_0], by first | rfl | simp only [List.map_cons, List.map_nil, RH, Nat.reduceAdd, Nat.reduceEqDiff, reduceIte, T1, T3, T4, T111, K1_0], by first | (simp only [RH, T1, T3, T4, T111, K1_0]; done) | ((try simp only [RH, T1, T3, T4, T111, K1_0]); omega), ?_⟩
              exact ⟨by (try simp only [List.map_cons, List.map_nil, RH, Nat.reduceAdd, Nat.reduceEqDiff, reduceIte, ev_tmp, ev_const, lit_iv, lit_w8, lit_w32, lit_w64, envOf0, envOf1, envOf2, envOf3, envOf4, envOf5, T1, T3, T4, T111, K1_0]); rfl, by (try simp only [List.map_cons, List.map_nil, RH, Nat.reduceAdd, Nat.reduceEqDiff, reduceIte, ev_tmp, ev_const, lit_iv, lit_w8, lit_w32, lit_w64, envOf0, envOf1, envOf2, envOf3, envOf4, envOf5, T1, T3, T4, T111, K1_0]); rw [hv], rfl⟩
            · rw [decide_eq_true h0, decide_eq_false h16, decide_eq_false h3] at hab1
              have hv : aboveL ys (k + 1) = false := hab1
              repeat (first
                | refine R_seq ?_ | refine R_region ?_ | refine R_nil ?_ | refine Q_seq ?_ | refine Q_norm ?_ | refine Q_seqr ?_ | refine Q_seqx ?_ | refine Q_bl ?_ | refine Q_blr ?_ | refine Q_blx ?_ | refine Q_blo rfl ?_ | refine R_block ?_ | refine R_skip ?_ | refine R_exit ?_ | refine R_ret ?_ | refine I_true ?_ | refine I_false ?_ | refine N_exit ?_ | refine N_ret ?_
                | ((first | apply R_op | apply R_op0)
                   · ((repeat (first | simp (maxDischargeDepth := 9) only [RA, Nat.reduceEqDiff, Nat.reduceLT, Nat.reduceLeDiff, Nat.reduceAdd, Nat.reduceSub, Nat.reduceMul, Nat.reduceDiv, Nat.reduceMod, Nat.reducePow, Nat.reduceBEq, Nat.reduceGT, reduceIte, j4, j3, S111len b1, hk16, hia, hld, eq_true h0, eq_false h16, eq_false h3, T1, T3, T4, T111, K1_0] | simp (disch := first | assumption | omega) only [RV, j4, j3, S111len b1, hk16, hia, hld, eq_true h0, eq_false h16, eq_false h3, K1_0])) <;> rfl))
                | (apply R_cond
                   · (simp only [RE, Nat.reduceEqDiff, Nat.reduceLT, Nat.reduceLeDiff, Nat.reduceBEq, reduceIte] <;> rfl))
                | (apply R_grd
                   · (simp only [yieldedA, RY, Nat.reduceEqDiff, reduceIte] <;> rfl))
                | (apply R_grdN
                   · (simp only [yieldedA, RY, Nat.reduceEqDiff, reduceIte] <;> rfl)))
              refine ⟨rfl, by first | rfl | simp only [List.map_cons, List.map_nil, RH, Nat.reduceAdd, Nat.reduceEqDiff, reduceIte, T1, T3, T4, T111, K1_0], by first | rfl | simp only [List.map_cons, List.map_nil, RH, Nat.reduceAdd, Nat.reduceEqDiff, reduceIte, T1, T3, T4, T111, K1_0], by first | (simp only [RH, T1, T3, T4, T111, K1_0]; done) | ((try simp only [RH, T1, T3, T4, T111, K1_0]); omega), ?_⟩
              exact ⟨by (try simp only [List.map_cons, List.map_nil, RH, Nat.reduceAdd, Nat.reduceEqDiff, reduceIte, ev_tmp, ev_const, lit_iv, lit_w8, lit_w32, lit_w64, envOf0, envOf1, envOf2, envOf3, envOf4, envOf5, T1, T3, T4, T111, K1_0]); rfl, by (try simp only [List.map_cons, List.map_nil, RH, Nat.reduceAdd, Nat.reduceEqDiff, reduceIte, ev_tmp, ev_const, lit_iv, lit_w8, lit_w32, lit_w64, envOf0, envOf1, envOf2, envOf3, envOf4, envOf5, T1, T3, T4, T111, K1_0]); rw [hv], rfl⟩
        · rw [decide_eq_false h0] at hab1
          have hv : aboveL ys (k + 1) = false := hab1
          repeat (first
            | refine R_seq ?_ | refine R_region ?_ | refine R_nil ?_ | refine Q_seq ?_ | refine Q_norm ?_ | refine Q_seqr ?_ | refine Q_seqx ?_ | refine Q_bl ?_ | refine Q_blr ?_ | refine Q_blx ?_ | refine Q_blo rfl ?_ | refine R_block ?_ | refine R_skip ?_ | refine R_exit ?_ | refine R_ret ?_ | refine I_true ?_ | refine I_false ?_ | refine N_exit ?_ | refine N_ret ?_
            | ((first | apply R_op | apply R_op0)
               · ((repeat (first | simp (maxDischargeDepth := 9) only [RA, Nat.reduceEqDiff, Nat.reduceLT, Nat.reduceLeDiff, Nat.reduceAdd, Nat.reduceSub, Nat.reduceMul, Nat.reduceDiv, Nat.reduceMod, Nat.reducePow, Nat.reduceBEq, Nat.reduceGT, reduceIte, j4, j3, S111len b1, hk16, hia, hld, eq_false h0, T1, T3, T4, T111, K1_0] | simp (disch := first | assumption | omega) only [RV, j4, j3, S111len b1, hk16, hia, hld, eq_false h0, K1_0])) <;> rfl))
            | (apply R_cond
               · (simp only [RE, Nat.reduceEqDiff, Nat.reduceLT, Nat.reduceLeDiff, Nat.reduceBEq, reduceIte] <;> rfl))
            | (apply R_grd
               · (simp only [yieldedA, RY, Nat.reduceEqDiff, reduceIte] <;> rfl))
            | (apply R_grdN
               · (simp only [yieldedA, RY, Nat.reduceEqDiff, reduceIte] <;> rfl)))
          refine ⟨rfl, by first | rfl | simp only [List.map_cons, List.map_nil, RH, Nat.reduceAdd, Nat.reduceEqDiff, reduceIte, T1, T3, T4, T111, K1_0], by first | rfl | simp only [List.map_cons, List.map_nil, RH, Nat.reduceAdd, Nat.reduceEqDiff, reduceIte, T1, T3, T4, T111, K1_0], by first | (simp only [RH, T1, T3, T4, T111, K1_0]; done) | ((try simp only [RH, T1, T3, T4, T111, K1_0]); omega), ?_⟩
          exact ⟨by (try simp only [List.map_cons, List.map_nil, RH, Nat.reduceAdd, Nat.reduceEqDiff, reduceIte, ev_tmp, ev_const, lit_iv, lit_w8, lit_w32, lit_w64, envOf0, envOf1, envOf2, envOf3, envOf4, envOf5, T1, T3, T4, T111, K1_0]); rfl, by (try simp only [List.map_cons, List.map_nil, RH, Nat.reduceAdd, Nat.reduceEqDiff, reduceIte, ev_tmp, ev_const, lit_iv, lit_w8, lit_w32, lit_w64, envOf0, envOf1, envOf2, envOf3, envOf4, envOf5, T1, T3, T4, T111, K1_0]); rw [hv], rfl⟩
      · rw [hbk] at j3 hab1
        have hv : aboveL ys (k + 1) = true := hab1
        repeat (first
          | refine R_seq ?_ | refine R_region ?_ | refine R_nil ?_ | refine Q_seq ?_ | refine Q_norm ?_ | refine Q_seqr ?_ | refine Q_seqx ?_ | refine Q_bl ?_ | refine Q_blr ?_ | refine Q_blx ?_ | refine Q_blo rfl ?_ | refine R_block ?_ | refine R_skip ?_ | refine R_exit ?_ | refine R_ret ?_ | refine I_true ?_ | refine I_false ?_ | refine N_exit ?_ | refine N_ret ?_
          | ((first | apply R_op | apply R_op0)
             · ((repeat (first | simp (maxDischargeDepth := 9) only [RA, Nat.reduceEqDiff, Nat.reduceLT, Nat.reduceLeDiff, Nat.reduceAdd, Nat.reduceSub, Nat.reduceMul, Nat.reduceDiv, Nat.reduceMod, Nat.reducePow, Nat.reduceBEq, Nat.reduceGT, reduceIte, j4, j3, S111len b1, hk16, T1, T3, T4, T111, K1_0] | simp (disch := first | assumption | omega) only [RV, j4, j3, S111len b1, hk16, K1_0])) <;> rfl))
          | (apply R_cond
             · (simp only [RE, Nat.reduceEqDiff, Nat.reduceLT, Nat.reduceLeDiff, Nat.reduceBEq, reduceIte] <;> rfl))
          | (apply R_grd
             · (simp only [yieldedA, RY, Nat.reduceEqDiff, reduceIte] <;> rfl))
          | (apply R_grdN
             · (simp only [yieldedA, RY, Nat.reduceEqDiff, reduceIte] <;> rfl)))
        refine ⟨rfl, by first | rfl | simp only [List.map_cons, List.map_nil, RH, Nat.reduceAdd, Nat.reduceEqDiff, reduceIte, T1, T3, T4, T111, K1_0], by first | rfl | simp only [List.map_cons, List.map_nil, RH, Nat.reduceAdd, Nat.reduceEqDiff, reduceIte, T1, T3, T4, T111, K1_0], by first | (simp only [RH, T1, T3, T4, T111, K1_0]; done) | ((try simp only [RH, T1, T3, T4, T111, K1_0]); omega), ?_⟩
        exact ⟨by (try simp only [List.map_cons, List.map_nil, RH, Nat.reduceAdd, Nat.reduceEqDiff, reduceIte, ev_tmp, ev_const, lit_iv, lit_w8, lit_w32, lit_w64, envOf0, envOf1, envOf2, envOf3, envOf4, envOf5, T1, T3, T4, T111, K1_0]); rfl, by (try simp only [List.map_cons, List.map_nil, RH, Nat.reduceAdd, Nat.reduceEqDiff, reduceIte, ev_tmp, ev_const, lit_iv, lit_w8, lit_w32, lit_w64, envOf0, envOf1, envOf2, envOf3, envOf4, envOf5, T1, T3, T4, T111, K1_0]); rw [hv], rfl⟩
    · intro e2 h2 hK hO hN ⟨j4, j3, hh⟩
      subst hh
      simp only [List.map_cons, List.map_nil, List.cons.injEq, and_true, RH, Nat.reduceAdd, Nat.reduceEqDiff, reduceIte, envOf0, envOf1, envOf2, envOf3, envOf4, envOf5] at hK
      have K1_0 := hK
      try simp only [RH] at hN
      rw [hab] at j3
      have hle : ¬ 16 + (ys.length - 16) < ys.length := by omega
      repeat (first
        | refine R_seq ?_ | refine R_region ?_ | refine R_nil ?_ | refine Q_seq ?_ | refine Q_norm ?_ | refine Q_seqr ?_ | refine Q_seqx ?_ | refine Q_bl ?_ | refine Q_blr ?_ | refine Q_blx ?_ | refine Q_blo rfl ?_ | refine R_block ?_ | refine R_skip ?_ | refine R_exit ?_ | refine R_ret ?_ | refine I_true ?_ | refine I_false ?_ | refine N_exit ?_ | refine N_ret ?_
        | ((first | apply R_op | apply R_op0)
           · ((repeat (first | simp (maxDischargeDepth := 9) only [RA, Nat.reduceEqDiff, Nat.reduceLT, Nat.reduceLeDiff, Nat.reduceAdd, Nat.reduceSub, Nat.reduceMul, Nat.reduceDiv, Nat.reduceMod, Nat.reducePow, Nat.reduceBEq, Nat.reduceGT, reduceIte, j4, j3, S111len b1, hle, T1, T3, T4, T111, K1_0] | simp (disch := first | assumption | omega) only [RV, j4, j3, S111len b1, hle, K1_0])) <;> rfl))
        | (apply R_cond
           · (simp only [RE, Nat.reduceEqDiff, Nat.reduceLT, Nat.reduceLeDiff, Nat.reduceBEq, reduceIte] <;> rfl))
        | (apply R_grd
           · (simp only [yieldedA, RY, Nat.reduceEqDiff, reduceIte] <;> rfl)))
      have nb := b1
      have g : ∀ i, ys.getD i 0 ≤ 255 := fun i => getD_le (fun y hy' => by have := hy y hy'; omega) i
      refine W_loopK [0, 19, 20, 21, 22, 23, 24, 25, 26, 27, 28, 29, 30, 31, 32, 33, 34] [] (fun k e3 h3 => e3 6 = iv k ∧ OwI h2.nx h3 (e3 5) ((List.range k).map fun i => ys.getD i 0) ∧ Fr h2.nx h2 h3) 17 (by decide) ?_ ?_ ?_
      · exact ⟨by (try simp only [List.map_cons, List.map_nil, RH, Nat.reduceAdd, Nat.reduceEqDiff, reduceIte, ev_tmp, ev_const, lit_iv, lit_w8, lit_w32, lit_w64, envOf0, envOf1, envOf2, envOf3, envOf4, envOf5, T1, T3, T4, T111, K1_0]), by (try simp only [List.map_cons, List.map_nil, RH, Nat.reduceAdd, Nat.reduceEqDiff, reduceIte, ev_tmp, ev_const, lit_iv, lit_w8, lit_w32, lit_w64, envOf0, envOf1, envOf2, envOf3, envOf4, envOf5, T1, T3, T4, T111, K1_0]); exact .nil, .refl _ _⟩
      · intro k hk e3 h3 hK hO hN ⟨j6, own3, F3⟩
        simp only [List.map_cons, List.map_nil, List.cons.injEq, and_true, RH, Nat.reduceAdd, Nat.reduceEqDiff, reduceIte, envOf0, envOf1, envOf2, envOf3, envOf4, envOf5, K1_0] at hK
        obtain ⟨K2_0, K2_19, K2_20, K2_21, K2_22, K2_23, K2_24, K2_25, K2_26, K2_27, K2_28, K2_29, K2_30, K2_31, K2_32, K2_33, K2_34⟩ := hK
        try simp only [RH] at hN
        have b3 := b1.fr0 F3
        have hat := at104 q h3 (e1 0) ys k b3
        have n3 := F3.1
        have hlr : ((List.range k).map fun i => ys.getD i 0).length = k := by simp
        repeat (first
          | refine R_seq ?_ | refine R_region ?_ | refine R_nil ?_ | refine Q_seq ?_ | refine Q_norm ?_ | refine Q_seqr ?_ | refine Q_seqx ?_ | refine Q_bl ?_ | refine Q_blr ?_ | refine Q_blx ?_ | refine Q_blo rfl ?_ | refine R_block ?_ | refine R_skip ?_ | refine R_exit ?_ | refine R_ret ?_ | refine I_true ?_ | refine I_false ?_ | refine N_exit ?_ | refine N_ret ?_
          | ((first | apply R_op | apply R_op0)
             · ((repeat (first | simp (maxDischargeDepth := 9) only [RA, Nat.reduceEqDiff, Nat.reduceLT, Nat.reduceLeDiff, Nat.reduceAdd, Nat.reduceSub, Nat.reduceMul, Nat.reduceDiv, Nat.reduceMod, Nat.reducePow, Nat.reduceBEq, Nat.reduceGT, reduceIte, j6, hk, hat, bs1_111, T1, T3, T4, T111, K1_0, K2_0, K2_19, K2_20, K2_21, K2_22, K2_23, K2_24, K2_25, K2_26, K2_27, K2_28, K2_29, K2_30, K2_31, K2_32, K2_33, K2_34] | simp (disch := first | assumption | omega) only [RV, j6, hk, hat, bs1_111, K1_0, K2_0, K2_19, K2_20, K2_21, K2_22, K2_23, K2_24, K2_25, K2_26, K2_27, K2_28, K2_29, K2_30, K2_31, K2_32, K2_33, K2_34])) <;> rfl))
          | (apply R_cond
             · (simp only [RE, Nat.reduceEqDiff, Nat.reduceLT, Nat.reduceLeDiff, Nat.reduceBEq, reduceIte] <;> rfl))
          | (apply R_grd
             · (simp only [yieldedA, RY, Nat.reduceEqDiff, reduceIte] <;> rfl)))
        refine R_appI E111 Try.underlying111 (v := e3 5) (x := ys.getD k 0) (p := h3.nx) (lo := h2.nx) (xs := (List.range k).map fun i => ys.getD i 0) ?_ ?_ own3.new (by simp only [RH]; omega) (by simp only [RH]) (by simp only [RH]; omega) (by omega) ?_
        · first | rfl | (first | rw [ev_tmp] | rw [ev_const] | skip) <;> simp only [upd_apply, Nat.reduceEqDiff, if_true, if_false, reduceIte, lit_iv, lit_w8, K1_0, K2_0, K2_19, K2_20, K2_21, K2_22, K2_23, K2_24, K2_25, K2_26, K2_27, K2_28, K2_29, K2_30, K2_31, K2_32, K2_33, K2_34]
        · first | rfl | (first | rw [ev_tmp] | rw [ev_const] | skip) <;> simp only [upd_apply, Nat.reduceEqDiff, if_true, if_false, reduceIte, lit_iv, lit_w8, K1_0, K2_0, K2_19, K2_20, K2_21, K2_22, K2_23, K2_24, K2_25, K2_26, K2_27, K2_28, K2_29, K2_30, K2_31, K2_32, K2_33, K2_34]
        intro v4 h4 own4 wt4
        rw [range_snoc (fun i => ys.getD i 0) k] at own4
        have n4 := wt4.nx
        simp only [RH] at n4
        repeat (first
          | refine R_seq ?_ | refine R_region ?_ | refine R_nil ?_ | refine Q_seq ?_ | refine Q_norm ?_ | refine Q_seqr ?_ | refine Q_seqx ?_ | refine Q_bl ?_ | refine Q_blr ?_ | refine Q_blx ?_ | refine Q_blo rfl ?_ | refine R_block ?_ | refine R_skip ?_ | refine R_exit ?_ | refine R_ret ?_ | refine I_true ?_ | refine I_false ?_ | refine N_exit ?_ | refine N_ret ?_
          | ((first | apply R_op | apply R_op0)
             · ((repeat (first | simp (maxDischargeDepth := 9) only [RA, Nat.reduceEqDiff, Nat.reduceLT, Nat.reduceLeDiff, Nat.reduceAdd, Nat.reduceSub, Nat.reduceMul, Nat.reduceDiv, Nat.reduceMod, Nat.reducePow, Nat.reduceBEq, Nat.reduceGT, reduceIte, j6, T1, T3, T4, T111, K1_0, K2_0, K2_19, K2_20, K2_21, K2_22, K2_23, K2_24, K2_25, K2_26, K2_27, K2_28, K2_29, K2_30, K2_31, K2_32, K2_33, K2_34] | simp (disch := first | assumption | omega) only [RV, j6, K1_0, K2_0, K2_19, K2_20, K2_21, K2_22, K2_23, K2_24, K2_25, K2_26, K2_27, K2_28, K2_29, K2_30, K2_31, K2_32, K2_33, K2_34])) <;> rfl))
          | (apply R_cond
             · (simp only [RE, Nat.reduceEqDiff, Nat.reduceLT, Nat.reduceLeDiff, Nat.reduceBEq, reduceIte] <;> rfl))
          | (apply R_grd
             · (simp only [yieldedA, RY, Nat.reduceEqDiff, reduceIte] <;> rfl)))
        refine ⟨rfl, by first | rfl | simp only [List.map_cons, List.map_nil, RH, Nat.reduceAdd, Nat.reduceEqDiff, reduceIte, T1, T3, T4, T111, K1_0, K2_0, K2_19, K2_20, K2_21, K2_22, K2_23, K2_24, K2_25, K2_26, K2_27, K2_28, K2_29, K2_30, K2_31, K2_32, K2_33, K2_34], by first | rfl | simp only [List.map_cons, List.map_nil, RH, Nat.reduceAdd, Nat.reduceEqDiff, reduceIte, T1, T3, T4, T111, K1_0, K2_0, K2_19, K2_20, K2_21, K2_22, K2_23, K2_24, K2_25, K2_26, K2_27, K2_28, K2_29, K2_30, K2_31, K2_32, K2_33, K2_34], by first | (simp only [RH, T1, T3, T4, T111, K1_0, K2_0, K2_19, K2_20, K2_21, K2_22, K2_23, K2_24, K2_25, K2_26, K2_27, K2_28, K2_29, K2_30, K2_31, K2_32, K2_33, K2_34]; done) | ((try simp only [RH, T1, T3, T4, T111, K1_0, K2_0, K2_19, K2_20, K2_21, K2_22, K2_23, K2_24, K2_25, K2_26, K2_27, K2_28, K2_29, K2_30, K2_31, K2_32, K2_33, K2_34]); omega), ?_⟩
        exact ⟨by (try simp only [List.map_cons, List.map_nil, RH, Nat.reduceAdd, Nat.reduceEqDiff, reduceIte, ev_tmp, ev_const, lit_iv, lit_w8, lit_w32, lit_w64, envOf0, envOf1, envOf2, envOf3, envOf4, envOf5, T1, T3, T4, T111, K1_0, K2_0, K2_19, K2_20, K2_21, K2_22, K2_23, K2_24, K2_25, K2_26, K2_27, K2_28, K2_29, K2_30, K2_31, K2_32, K2_33, K2_34]), by (try simp only [List.map_cons, List.map_nil, RH, Nat.reduceAdd, Nat.reduceEqDiff, reduceIte, ev_tmp, ev_const, lit_iv, lit_w8, lit_w32, lit_w64, envOf0, envOf1, envOf2, envOf3, envOf4, envOf5, T1, T3, T4, T111, K1_0, K2_0, K2_19, K2_20, K2_21, K2_22, K2_23, K2_24, K2_25, K2_26, K2_27, K2_28, K2_29, K2_30, K2_31, K2_32, K2_33, K2_34]); exact own4, F3.trans ((Fr.new (.refl h2.nx h3) n3 .rw 1 _).trans (wt4.owFr (by simp only [RH]; omega) own3.new))⟩
      · intro e3 h3 hK hO hN ⟨j6, own3, F3⟩
        simp only [List.map_cons, List.map_nil, List.cons.injEq, and_true, RH, Nat.reduceAdd, Nat.reduceEqDiff, reduceIte, envOf0, envOf1, envOf2, envOf3, envOf4, envOf5, K1_0] at hK
        obtain ⟨K2_0, K2_19, K2_20, K2_21, K2_22, K2_23, K2_24, K2_25, K2_26, K2_27, K2_28, K2_29, K2_30, K2_31, K2_32, K2_33, K2_34⟩ := hK
        try simp only [RH] at hN
        have n3 := F3.1
        have b3 := b1.fr0 F3
        have hl17 : ((List.range 17).map fun i => ys.getD i 0).length = 17 := by simp
        have h16 : 16 < ((List.range 17).map fun i => ys.getD i 0).length := by omega
        have hg16 : ((List.range 17).map fun i => ys.getD i 0).getD 16 0 = ys.getD 16 0 := by
          rw [List.getD_eq_getElem?_getD, List.getElem?_map, List.getElem?_range (by decide)]; rfl
        have hld := iv_ld Try.underlying3 inf3 own3.sl fr_refl h16
        rw [hg16] at hld
        have hia := S111ia own3.sl h16
        repeat (first
          | refine R_seq ?_ | refine R_region ?_ | refine R_nil ?_ | refine Q_seq ?_ | refine Q_norm ?_ | refine Q_seqr ?_ | refine Q_seqx ?_ | refine Q_bl ?_ | refine Q_blr ?_ | refine Q_blx ?_ | refine Q_blo rfl ?_ | refine R_block ?_ | refine R_skip ?_ | refine R_exit ?_ | refine R_ret ?_ | refine I_true ?_ | refine I_false ?_ | refine N_exit ?_ | refine N_ret ?_
          | ((first | apply R_op | apply R_op0)
             · ((repeat (first | simp (maxDischargeDepth := 9) only [RA, Nat.reduceEqDiff, Nat.reduceLT, Nat.reduceLeDiff, Nat.reduceAdd, Nat.reduceSub, Nat.reduceMul, Nat.reduceDiv, Nat.reduceMod, Nat.reducePow, Nat.reduceBEq, Nat.reduceGT, reduceIte, j6, hia, hld, T1, T3, T4, T111, K1_0, K2_0, K2_19, K2_20, K2_21, K2_22, K2_23, K2_24, K2_25, K2_26, K2_27, K2_28, K2_29, K2_30, K2_31, K2_32, K2_33, K2_34] | simp (disch := first | assumption | omega) only [RV, j6, hia, hld, K1_0, K2_0, K2_19, K2_20, K2_21, K2_22, K2_23, K2_24, K2_25, K2_26, K2_27, K2_28, K2_29, K2_30, K2_31, K2_32, K2_33, K2_34])) <;> rfl))
          | (apply R_cond
             · (simp only [RE, Nat.reduceEqDiff, Nat.reduceLT, Nat.reduceLeDiff, Nat.reduceBEq, reduceIte] <;> rfl))
          | (apply R_grd
             · (simp only [yieldedA, RY, Nat.reduceEqDiff, reduceIte] <;> rfl)))
        refine R_stI (v := e3 5) (x := ys.getD 16 0 % 4) (i := 16) inf3 rfl ?_ ?_ own3 h16 ?_
        · first | rfl | (first | rw [ev_tmp] | rw [ev_const] | skip) <;> simp only [upd_apply, Nat.reduceEqDiff, if_true, if_false, reduceIte, lit_iv, lit_w8, K1_0, K2_0, K2_19, K2_20, K2_21, K2_22, K2_23, K2_24, K2_25, K2_26, K2_27, K2_28, K2_29, K2_30, K2_31, K2_32, K2_33, K2_34]
        · first | rfl | (first | rw [ev_tmp] | rw [ev_const] | skip) <;> simp only [upd_apply, Nat.reduceEqDiff, if_true, if_false, reduceIte, lit_iv, lit_w8, K1_0, K2_0, K2_19, K2_20, K2_21, K2_22, K2_23, K2_24, K2_25, K2_26, K2_27, K2_28, K2_29, K2_30, K2_31, K2_32, K2_33, K2_34]
        intro h4 own4 wt4 n4
        rw [low17_eq] at own4
        have F4 := F3.trans (wt4.owFr n3 own3)
        repeat (first
          | refine R_seq ?_ | refine R_region ?_ | refine R_nil ?_ | refine Q_seq ?_ | refine Q_norm ?_ | refine Q_seqr ?_ | refine Q_seqx ?_ | refine Q_bl ?_ | refine Q_blr ?_ | refine Q_blx ?_ | refine Q_blo rfl ?_ | refine R_block ?_ | refine R_skip ?_ | refine R_exit ?_ | refine R_ret ?_ | refine I_true ?_ | refine I_false ?_ | refine N_exit ?_ | refine N_ret ?_
          | ((first | apply R_op | apply R_op0)
             · ((repeat (first | simp (maxDischargeDepth := 9) only [RA, Nat.reduceEqDiff, Nat.reduceLT, Nat.reduceLeDiff, Nat.reduceAdd, Nat.reduceSub, Nat.reduceMul, Nat.reduceDiv, Nat.reduceMod, Nat.reducePow, Nat.reduceBEq, Nat.reduceGT, reduceIte, T1, T3, T4, T111, K1_0, K2_0, K2_19, K2_20, K2_21, K2_22, K2_23, K2_24, K2_25, K2_26, K2_27, K2_28, K2_29, K2_30, K2_31, K2_32, K2_33, K2_34] | simp (disch := first | assumption | omega) only [RV, K1_0, K2_0, K2_19, K2_20, K2_21, K2_22, K2_23, K2_24, K2_25, K2_26, K2_27, K2_28, K2_29, K2_30, K2_31, K2_32, K2_33, K2_34])) <;> rfl))
          | (apply R_cond
             · (simp only [RE, Nat.reduceEqDiff, Nat.reduceLT, Nat.reduceLeDiff, Nat.reduceBEq, reduceIte] <;> rfl))
          | (apply R_grd
             · (simp only [yieldedA, RY, Nat.reduceEqDiff, reduceIte] <;> rfl)))
        refine W_loopK [0, 19, 20, 21, 22, 23, 24, 25, 26, 27, 28, 29, 30, 31, 32, 33, 34] [] (fun k e5 h5 => e5 7 = iv (16 + k) ∧ Fr h2.nx h2 h5 ∧ ∃ lw, OwI h2.nx h5 (e5 5) lw ∧ LowAt ys lw k) (ys.length - 16) (by omega) ?_ ?_ ?_
        · exact ⟨by (try simp only [List.map_cons, List.map_nil, RH, Nat.reduceAdd, Nat.reduceEqDiff, reduceIte, ev_tmp, ev_const, lit_iv, lit_w8, lit_w32, lit_w64, envOf0, envOf1, envOf2, envOf3, envOf4, envOf5, T1, T3, T4, T111, K1_0, K2_0, K2_19, K2_20, K2_21, K2_22, K2_23, K2_24, K2_25, K2_26, K2_27, K2_28, K2_29, K2_30, K2_31, K2_32, K2_33, K2_34]), F4, _, by (try simp only [List.map_cons, List.map_nil, RH, Nat.reduceAdd, Nat.reduceEqDiff, reduceIte, ev_tmp, ev_const, lit_iv, lit_w8, lit_w32, lit_w64, envOf0, envOf1, envOf2, envOf3, envOf4, envOf5, T1, T3, T4, T111, K1_0, K2_0, K2_19, K2_20, K2_21, K2_22, K2_23, K2_24, K2_25, K2_26, K2_27, K2_28, K2_29, K2_30, K2_31, K2_32, K2_33, K2_34]); exact own4, .zero hy⟩
        · intro k hk e5 h5 hK hO hN ⟨j7, F5, lw, own5, la⟩
          simp only [List.map_cons, List.map_nil, List.cons.injEq, and_true, RH, Nat.reduceAdd, Nat.reduceEqDiff, reduceIte, envOf0, envOf1, envOf2, envOf3, envOf4, envOf5, K1_0, K2_0, K2_19, K2_20, K2_21, K2_22, K2_23, K2_24, K2_25, K2_26, K2_27, K2_28, K2_29, K2_30, K2_31, K2_32, K2_33, K2_34] at hK
          obtain ⟨K3_0, K3_19, K3_20, K3_21, K3_22, K3_23, K3_24, K3_25, K3_26, K3_27, K3_28, K3_29, K3_30, K3_31, K3_32, K3_33, K3_34⟩ := hK
          try simp only [RH] at hN
          have b5 := b1.fr0 F5
          have hk16 : 16 + k < ys.length := by omega
          have hia5 := S111ia b5 hk16
          have hld5 := iv_ld Try.underlying3 inf3 b5 fr_refl hk16
          have hat := at104 q h5 (e1 0) ys (16 + k + 1) b5
          have g0 := g (16 + k)
          have g1 := g (16 + k + 1)
          have n5 := F5.1
          repeat (first
            | refine R_seq ?_ | refine R_region ?_ | refine R_nil ?_ | refine Q_seq ?_ | refine Q_norm ?_ | refine Q_seqr ?_ | refine Q_seqx ?_ | refine Q_bl ?_ | refine Q_blr ?_ | refine Q_blx ?_ | refine Q_blo rfl ?_ | refine R_block ?_ | refine R_skip ?_ | refine R_exit ?_ | refine R_ret ?_ | refine I_true ?_ | refine I_false ?_ | refine N_exit ?_ | refine N_ret ?_
            | ((first | apply R_op | apply R_op0)
               · ((repeat (first | simp (maxDischargeDepth := 9) only [RA, Nat.reduceEqDiff, Nat.reduceLT, Nat.reduceLeDiff, Nat.reduceAdd, Nat.reduceSub, Nat.reduceMul, Nat.reduceDiv, Nat.reduceMod, Nat.reducePow, Nat.reduceBEq, Nat.reduceGT, reduceIte, j7, S111len b5, hk16, T1, T3, T4, T111, K1_0, K2_0, K2_19, K2_20, K2_21, K2_22, K2_23, K2_24, K2_25, K2_26, K2_27, K2_28, K2_29, K2_30, K2_31, K2_32, K2_33, K2_34, K3_0, K3_19, K3_20, K3_21, K3_22, K3_23, K3_24, K3_25, K3_26, K3_27, K3_28, K3_29, K3_30, K3_31, K3_32, K3_33, K3_34] | simp (disch := first | assumption | omega) only [RV, j7, S111len b5, hk16, K1_0, K2_0, K2_19, K2_20, K2_21, K2_22, K2_23, K2_24, K2_25, K2_26, K2_27, K2_28, K2_29, K2_30, K2_31, K2_32, K2_33, K2_34, K3_0, K3_19, K3_20, K3_21, K3_22, K3_23, K3_24, K3_25, K3_26, K3_27, K3_28, K3_29, K3_30, K3_31, K3_32, K3_33, K3_34])) <;> rfl))
            | (apply R_cond
               · (simp only [RE, Nat.reduceEqDiff, Nat.reduceLT, Nat.reduceLeDiff, Nat.reduceBEq, reduceIte] <;> rfl))
            | (apply R_grd
               · (simp only [yieldedA, RY, Nat.reduceEqDiff, reduceIte] <;> rfl)))
          refine D_draw [3, 8] (fun _ => True) (by kernel_rfl) ?_
          repeat (first
            | refine D_nil ?_ | refine I_true ?_ | refine I_false ?_
            | ((first | apply D_op | apply D_op0)
               · ((repeat (first | simp (maxDischargeDepth := 9) only [RA, Nat.reduceEqDiff, Nat.reduceLT, Nat.reduceLeDiff, Nat.reduceAdd, Nat.reduceSub, Nat.reduceMul, Nat.reduceDiv, Nat.reduceMod, Nat.reducePow, Nat.reduceBEq, Nat.reduceGT, reduceIte, j7, hia5, hld5, hat, T1, T3, T4, T111, K1_0, K2_0, K2_19, K2_20, K2_21, K2_22, K2_23, K2_24, K2_25, K2_26, K2_27, K2_28, K2_29, K2_30, K2_31, K2_32, K2_33, K2_34, K3_0, K3_19, K3_20, K3_21, K3_22, K3_23, K3_24, K3_25, K3_26, K3_27, K3_28, K3_29, K3_30, K3_31, K3_32, K3_33, K3_34] | simp (disch := first | assumption | omega) only [RV, j7, hia5, hld5, hat, K1_0, K2_0, K2_19, K2_20, K2_21, K2_22, K2_23, K2_24, K2_25, K2_26, K2_27, K2_28, K2_29, K2_30, K2_31, K2_32, K2_33, K2_34, K3_0, K3_19, K3_20, K3_21, K3_22, K3_23, K3_24, K3_25, K3_26, K3_27, K3_28, K3_29, K3_30, K3_31, K3_32, K3_33, K3_34])) <;> rfl)
               · (intro hF; first | exact chk_pure rfl | exact chk_alloc rfl | exact chk_read rfl | exact chk_iso iso104 | exact chk_call iso104 (fun _ _ _ => rfl) | exact chk_iso iso105 | exact chk_call iso105 (fun _ _ _ => rfl) | (exfalso; revert hF; decide) | ((first | refine chk_load ?_ | refine chk_slice ?_ | refine chk_convert ?_ | refine chk_store ?_ | refine chk_call (by kernel_rfl) ?_); simp only [eq_self, ev_tmp, upd_apply, rowsOfV, List.mem_cons, List.not_mem_nil, or_false, forall_eq, forall_eq_or_imp, obj_put, obj_new, nx_new, nx_put, Nat.reduceEqDiff, if_true, if_false, reduceIte, implies_true, and_self, and_true, true_or, or_true, j7, hia5, hld5, hat, T1, T3, T4, T111, K1_0, K2_0, K2_19, K2_20, K2_21, K2_22, K2_23, K2_24, K2_25, K2_26, K2_27, K2_28, K2_29, K2_30, K2_31, K2_32, K2_33, K2_34, K3_0, K3_19, K3_20, K3_21, K3_22, K3_23, K3_24, K3_25, K3_26, K3_27, K3_28, K3_29, K3_30, K3_31, K3_32, K3_33, K3_34])))
            | (apply D_grd
               · (simp only [yieldedA, RY, Nat.reduceEqDiff, reduceIte] <;> rfl)))
          repeat (first
            | refine R_seq ?_ | refine R_region ?_ | refine R_nil ?_ | refine Q_seq ?_ | refine Q_norm ?_ | refine Q_seqr ?_ | refine Q_seqx ?_ | refine Q_bl ?_ | refine Q_blr ?_ | refine Q_blx ?_ | refine Q_blo rfl ?_ | refine R_block ?_ | refine R_skip ?_ | refine R_exit ?_ | refine R_ret ?_ | refine I_true ?_ | refine I_false ?_ | refine N_exit ?_ | refine N_ret ?_
            | ((first | apply R_op | apply R_op0)
               · ((repeat (first | simp (maxDischargeDepth := 9) only [RA, Nat.reduceEqDiff, Nat.reduceLT, Nat.reduceLeDiff, Nat.reduceAdd, Nat.reduceSub, Nat.reduceMul, Nat.reduceDiv, Nat.reduceMod, Nat.reducePow, Nat.reduceBEq, Nat.reduceGT, reduceIte, T1, T3, T4, T111, K1_0, K2_0, K2_19, K2_20, K2_21, K2_22, K2_23, K2_24, K2_25, K2_26, K2_27, K2_28, K2_29, K2_30, K2_31, K2_32, K2_33, K2_34, K3_0, K3_19, K3_20, K3_21, K3_22, K3_23, K3_24, K3_25, K3_26, K3_27, K3_28, K3_29, K3_30, K3_31, K3_32, K3_33, K3_34] | simp (disch := first | assumption | omega) only [RV, K1_0, K2_0, K2_19, K2_20, K2_21, K2_22, K2_23, K2_24, K2_25, K2_26, K2_27, K2_28, K2_29, K2_30, K2_31, K2_32, K2_33, K2_34, K3_0, K3_19, K3_20, K3_21, K3_22, K3_23, K3_24, K3_25, K3_26, K3_27, K3_28, K3_29, K3_30, K3_31, K3_32, K3_33, K3_34])) <;> rfl))
            | (apply R_cond
               · (simp only [RE, Nat.reduceEqDiff, Nat.reduceLT, Nat.reduceLeDiff, Nat.reduceBEq, reduceIte] <;> rfl))
            | (apply R_grd
               · (simp only [yieldedA, RY, Nat.reduceEqDiff, reduceIte] <;> rfl)))
          have hhi : ys.getD (16 + k) 0 / 4 + ys.getD (16 + k + 1) 0 % 4 * 64 ≤ 255 := by omega
          have hnext := la.next rfl hhi
          generalize ys.getD (16 + k) 0 / 4 + ys.getD (16 + k + 1) 0 % 4 * 64 = hi at hhi hnext ⊢
          have hsub : 16 + k - 16 = k := by omega
          have hll := la.len
          refine W_loopK [0, 7, 8, 19, 20, 21, 22, 23, 24, 25, 26, 27, 28, 29, 30, 31, 32, 33, 34] [] (fun t e6 h6 => Fr h2.nx h2 h6 ∧ OwI h2.nx h6 (e6 5) (lw ++ List.replicate t 0)) (k + 1 - lw.length) (by omega) ?_ ?_ ?_
          · exact ⟨F5, by (try simp only [List.map_cons, List.map_nil, RH, Nat.reduceAdd, Nat.reduceEqDiff, reduceIte, ev_tmp, ev_const, lit_iv, lit_w8, lit_w32, lit_w64, envOf0, envOf1, envOf2, envOf3, envOf4, envOf5, T1, T3, T4, T111, K1_0, K2_0, K2_19, K2_20, K2_21, K2_22, K2_23, K2_24, K2_25, K2_26, K2_27, K2_28, K2_29, K2_30, K2_31, K2_32, K2_33, K2_34, K3_0, K3_19, K3_20, K3_21, K3_22, K3_23, K3_24, K3_25, K3_26, K3_27, K3_28, K3_29, K3_30, K3_31, K3_32, K3_33, K3_34]); simpa using own5⟩
          · intro t ht e6 h6 hK hO hN ⟨F6, own6⟩
            simp only [List.map_cons, List.map_nil, List.cons.injEq, and_true, RH, Nat.reduceAdd, Nat.reduceEqDiff, reduceIte, envOf0, envOf1, envOf2, envOf3, envOf4, envOf5, j7, K1_0, K2_0, K2_19, K2_20, K2_21, K2_22, K2_23, K2_24, K2_25, K2_26, K2_27, K2_28, K2_29, K2_30, K2_31, K2_32, K2_33, K2_34, K3_0, K3_19, K3_20, K3_21, K3_22, K3_23, K3_24, K3_25, K3_26, K3_27, K3_28, K3_29, K3_30, K3_31, K3_32, K3_33, K3_34] at hK
            obtain ⟨K4_0, K4_7, K4_8, K4_19, K4_20, K4_21, K4_22, K4_23, K4_24, K4_25, K4_26, K4_27, K4_28, K4_29, K4_30, K4_31, K4_32, K4_33, K4_34⟩ := hK
            try simp only [RH] at hN
            have hlt : (lw ++ List.replicate t 0).length = lw.length + t := by simp
            have l6 := S111len own6.sl
            rw [hlt] at l6
            have hle : lw.length + t ≤ k := by omega
            have n6 := F6.1
            repeat (first
              | refine R_seq ?_ | refine R_region ?_ | refine R_nil ?_ | refine Q_seq ?_ | refine Q_norm ?_ | refine Q_seqr ?_ | refine Q_seqx ?_ | refine Q_bl ?_ | refine Q_blr ?_ | refine Q_blx ?_ | refine Q_blo rfl ?_ | refine R_block ?_ | refine R_skip ?_ | refine R_exit ?_ | refine R_ret ?_ | refine I_true ?_ | refine I_false ?_ | refine N_exit ?_ | refine N_ret ?_
              | ((first | apply R_op | apply R_op0)
                 · ((repeat (first | simp (maxDischargeDepth := 9) only [RA, Nat.reduceEqDiff, Nat.reduceLT, Nat.reduceLeDiff, Nat.reduceAdd, Nat.reduceSub, Nat.reduceMul, Nat.reduceDiv, Nat.reduceMod, Nat.reducePow, Nat.reduceBEq, Nat.reduceGT, reduceIte, l6, hle, hsub, bs1_111, T1, T3, T4, T111, K1_0, K2_0, K2_19, K2_20, K2_21, K2_22, K2_23, K2_24, K2_25, K2_26, K2_27, K2_28, K2_29, K2_30, K2_31, K2_32, K2_33, K2_34, K3_0, K3_19, K3_20, K3_21, K3_22, K3_23, K3_24, K3_25, K3_26, K3_27, K3_28, K3_29, K3_30, K3_31, K3_32, K3_33, K3_34, K4_0, K4_7, K4_8, K4_19, K4_20, K4_21, K4_22, K4_23, K4_24, K4_25, K4_26, K4_27, K4_28, K4_29, K4_30, K4_31, K4_32, K4_33, K4_34] | simp (disch := first | assumption | omega) only [RV, l6, hle, hsub, bs1_111, K1_0, K2_0, K2_19, K2_20, K2_21, K2_22, K2_23, K2_24, K2_25, K2_26, K2_27, K2_28, K2_29, K2_30, K2_31, K2_32, K2_33, K2_34, K3_0, K3_19, K3_20, K3_21, K3_22, K3_23, K3_24, K3_25, K3_26, K3_27, K3_28, K3_29, K3_30, K3_31, K3_32, K3_33, K3_34, K4_0, K4_7, K4_8, K4_19, K4_20, K4_21, K4_22, K4_23, K4_24, K4_25, K4_26, K4_27, K4_28, K4_29, K4_30, K4_31, K4_32, K4_33, K4_34])) <;> rfl))
              | (apply R_cond
                 · (simp only [RE, Nat.reduceEqDiff, Nat.reduceLT, Nat.reduceLeDiff, Nat.reduceBEq, reduceIte] <;> rfl))
              | (apply R_grd
                 · (simp only [yieldedA, RY, Nat.reduceEqDiff, reduceIte] <;> rfl)))
            refine R_appI E111 Try.underlying111 (v := e6 5) (x := 0) (p := h6.nx) (lo := h2.nx) (xs := lw ++ List.replicate t 0) ?_ ?_ own6.new (by simp only [RH]; omega) (by simp only [RH]) (by simp only [RH]; omega) (by omega) ?_
            · first | rfl | (first | rw [ev_tmp] | rw [ev_const] | skip) <;> simp only [upd_apply, Nat.reduceEqDiff, if_true, if_false, reduceIte, lit_iv, lit_w8, K1_0, K2_0, K2_19, K2_20, K2_21, K2_22, K2_23, K2_24, K2_25, K2_26, K2_27, K2_28, K2_29, K2_30, K2_31, K2_32, K2_33, K2_34, K3_0, K3_19, K3_20, K3_21, K3_22, K3_23, K3_24, K3_25, K3_26, K3_27, K3_28, K3_29, K3_30, K3_31, K3_32, K3_33, K3_34, K4_0, K4_7, K4_8, K4_19, K4_20, K4_21, K4_22, K4_23, K4_24, K4_25, K4_26, K4_27, K4_28, K4_29, K4_30, K4_31, K4_32, K4_33, K4_34]
            · first | rfl | (first | rw [ev_tmp] | rw [ev_const] | skip) <;> simp only [upd_apply, Nat.reduceEqDiff, if_true, if_false, reduceIte, lit_iv, lit_w8, K1_0, K2_0, K2_19, K2_20, K2_21, K2_22, K2_23, K2_24, K2_25, K2_26, K2_27, K2_28, K2_29, K2_30, K2_31, K2_32, K2_33, K2_34, K3_0, K3_19, K3_20, K3_21, K3_22, K3_23, K3_24, K3_25, K3_26, K3_27, K3_28, K3_29, K3_30, K3_31, K3_32, K3_33, K3_34, K4_0, K4_7, K4_8, K4_19, K4_20, K4_21, K4_22, K4_23, K4_24, K4_25, K4_26, K4_27, K4_28, K4_29, K4_30, K4_31, K4_32, K4_33, K4_34]
            intro v7 h7 own7 wt7
            rw [List.append_assoc, ← List.replicate_succ'] at own7
            have n7 := wt7.nx
            simp only [RH] at n7
            repeat (first
              | refine R_seq ?_ | refine R_region ?_ | refine R_nil ?_ | refine Q_seq ?_ | refine Q_norm ?_ | refine Q_seqr ?_ | refine Q_seqx ?_ | refine Q_bl ?_ | refine Q_blr ?_ | refine Q_blx ?_ | refine Q_blo rfl ?_ | refine R_block ?_ | refine R_skip ?_ | refine R_exit ?_ | refine R_ret ?_ | refine I_true ?_ | refine I_false ?_ | refine N_exit ?_ | refine N_ret ?_
              | ((first | apply R_op | apply R_op0)
                 · ((repeat (first | simp (maxDischargeDepth := 9) only [RA, Nat.reduceEqDiff, Nat.reduceLT, Nat.reduceLeDiff, Nat.reduceAdd, Nat.reduceSub, Nat.reduceMul, Nat.reduceDiv, Nat.reduceMod, Nat.reducePow, Nat.reduceBEq, Nat.reduceGT, reduceIte, T1, T3, T4, T111, K1_0, K2_0, K2_19, K2_20, K2_21, K2_22, K2_23, K2_24, K2_25, K2_26, K2_27, K2_28, K2_29, K2_30, K2_31, K2_32, K2_33, K2_34, K3_0, K3_19, K3_20, K3_21, K3_22, K3_23, K3_24, K3_25, K3_26, K3_27, K3_28, K3_29, K3_30, K3_31, K3_32, K3_33, K3_34, K4_0, K4_7, K4_8, K4_19, K4_20, K4_21, K4_22, K4_23, K4_24, K4_25, K4_26, K4_27, K4_28, K4_29, K4_30, K4_31, K4_32, K4_33, K4_34] | simp (disch := first | assumption | omega) only [RV, K1_0, K2_0, K2_19, K2_20, K2_21, K2_22, K2_23, K2_24, K2_25, K2_26, K2_27, K2_28, K2_29, K2_30, K2_31, K2_32, K2_33, K2_34, K3_0, K3_19, K3_20, K3_21, K3_22, K3_23, K3_24, K3_25, K3_26, K3_27, K3_28, K3_29, K3_30, K3_31, K3_32, K3_33, K3_34, K4_0, K4_7, K4_8, K4_19, K4_20, K4_21, K4_22, K4_23, K4_24, K4_25, K4_26, K4_27, K4_28, K4_29, K4_30, K4_31, K4_32, K4_33, K4_34])) <;> rfl))
              | (apply R_cond
                 · (simp only [RE, Nat.reduceEqDiff, Nat.reduceLT, Nat.reduceLeDiff, Nat.reduceBEq, reduceIte] <;> rfl))
              | (apply R_grd
                 · (simp only [yieldedA, RY, Nat.reduceEqDiff, reduceIte] <;> rfl)))
            refine ⟨rfl, by first | rfl | simp only [List.map_cons, List.map_nil, RH, Nat.reduceAdd, Nat.reduceEqDiff, reduceIte, T1, T3, T4, T111, K1_0, K2_0, K2_19, K2_20, K2_21, K2_22, K2_23, K2_24, K2_25, K2_26, K2_27, K2_28, K2_29, K2_30, K2_31, K2_32, K2_33, K2_34, K3_0, K3_19, K3_20, K3_21, K3_22, K3_23, K3_24, K3_25, K3_26, K3_27, K3_28, K3_29, K3_30, K3_31, K3_32, K3_33, K3_34, K4_0, K4_7, K4_8, K4_19, K4_20, K4_21, K4_22, K4_23, K4_24, K4_25, K4_26, K4_27, K4_28, K4_29, K4_30, K4_31, K4_32, K4_33, K4_34], by first | rfl | simp only [List.map_cons, List.map_nil, RH, Nat.reduceAdd, Nat.reduceEqDiff, reduceIte, T1, T3, T4, T111, K1_0, K2_0, K2_19, K2_20, K2_21, K2_22, K2_23, K2_24, K2_25, K2_26, K2_27, K2_28, K2_29, K2_30, K2_31, K2_32, K2_33, K2_34, K3_0, K3_19, K3_20, K3_21, K3_22, K3_23, K3_24, K3_25, K3_26, K3_27, K3_28, K3_29, K3_30, K3_31, K3_32, K3_33, K3_34, K4_0, K4_7, K4_8, K4_19, K4_20, K4_21, K4_22, K4_23, K4_24, K4_25, K4_26, K4_27, K4_28, K4_29, K4_30, K4_31, K4_32, K4_33, K4_34], by first | (simp only [RH, T1, T3, T4, T111, K1_0, K2_0, K2_19, K2_20, K2_21, K2_22, K2_23, K2_24, K2_25, K2_26, K2_27, K2_28, K2_29, K2_30, K2_31, K2_32, K2_33, K2_34, K3_0, K3_19, K3_20, K3_21, K3_22, K3_23, K3_24, K3_25, K3_26, K3_27, K3_28, K3_29, K3_30, K3_31, K3_32, K3_33, K3_34, K4_0, K4_7, K4_8, K4_19, K4_20, K4_21, K4_22, K4_23, K4_24, K4_25, K4_26, K4_27, K4_28, K4_29, K4_30, K4_31, K4_32, K4_33, K4_34]; done) | ((try simp only [RH, T1, T3, T4, T111, K1_0, K2_0, K2_19, K2_20, K2_21, K2_22, K2_23, K2_24, K2_25, K2_26, K2_27, K2_28, K2_29, K2_30, K2_31, K2_32, K2_33, K2_34, K3_0, K3_19, K3_20, K3_21, K3_22, K3_23, K3_24, K3_25, K3_26, K3_27, K3_28, K3_29, K3_30, K3_31, K3_32, K3_33, K3_34, K4_0, K4_7, K4_8, K4_19, K4_20, K4_21, K4_22, K4_23, K4_24, K4_25, K4_26, K4_27, K4_28, K4_29, K4_30, K4_31, K4_32, K4_33, K4_34]); omega), ?_⟩
            exact ⟨F6.trans ((Fr.new (.refl h2.nx h6) n6 .rw 1 _).trans (wt7.owFr (by simp only [RH]; omega) own6.new)), by (try simp only [List.map_cons, List.map_nil, RH, Nat.reduceAdd, Nat.reduceEqDiff, reduceIte, ev_tmp, ev_const, lit_iv, lit_w8, lit_w32, lit_w64, envOf0, envOf1, envOf2, envOf3, envOf4, envOf5, T1, T3, T4, T111, K1_0, K2_0, K2_19, K2_20, K2_21, K2_22, K2_23, K2_24, K2_25, K2_26, K2_27, K2_28, K2_29, K2_30, K2_31, K2_32, K2_33, K2_34, K3_0, K3_19, K3_20, K3_21, K3_22, K3_23, K3_24, K3_25, K3_26, K3_27, K3_28, K3_29, K3_30, K3_31, K3_32, K3_33, K3_34, K4_0, K4_7, K4_8, K4_19, K4_20, K4_21, K4_22, K4_23, K4_24, K4_25, K4_26, K4_27, K4_28, K4_29, K4_30, K4_31, K4_32, K4_33, K4_34]); exact own7⟩
          · intro e6 h6 hK hO hN ⟨F6, own6⟩
            simp only [List.map_cons, List.map_nil, List.cons.injEq, and_true, RH, Nat.reduceAdd, Nat.reduceEqDiff, reduceIte, envOf0, envOf1, envOf2, envOf3, envOf4, envOf5, j7, K1_0, K2_0, K2_19, K2_20, K2_21, K2_22, K2_23, K2_24, K2_25, K2_26, K2_27, K2_28, K2_29, K2_30, K2_31, K2_32, K2_33, K2_34, K3_0, K3_19, K3_20, K3_21, K3_22, K3_23, K3_24, K3_25, K3_26, K3_27, K3_28, K3_29, K3_30, K3_31, K3_32, K3_33, K3_34] at hK
            obtain ⟨K4_0, K4_7, K4_8, K4_19, K4_20, K4_21, K4_22, K4_23, K4_24, K4_25, K4_26, K4_27, K4_28, K4_29, K4_30, K4_31, K4_32, K4_33, K4_34⟩ := hK
            try simp only [RH] at hN
            have hlt : (lw ++ List.replicate (k + 1 - lw.length) 0).length = lw.length + (k + 1 - lw.length) := by simp
            have l6 := S111len own6.sl
            rw [hlt] at l6
            have hle : ¬ lw.length + (k + 1 - lw.length) ≤ k := by omega
            have hkl : k < (lw ++ List.replicate (k + 1 - lw.length) 0).length := by omega
            have hia6 := S111ia own6.sl hkl
            have hld6 := iv_ld Try.underlying3 inf3 own6.sl fr_refl hkl
            have n6 := F6.1
            have hbd : (lw ++ List.replicate (k + 1 - lw.length) 0).getD k 0 ≤ 1000000 := by
              refine getD_le (fun x hx' => ?_) k
              rcases List.mem_append.1 hx' with h9 | h9
              · have := la.le x h9; omega
              · have := List.eq_of_mem_replicate h9; omega
            generalize lw ++ List.replicate (k + 1 - lw.length) 0 = lz at own6 hlt hkl hia6 hld6 hbd hnext l6
            repeat (first
              | refine R_seq ?_ | refine R_region ?_ | refine R_nil ?_ | refine Q_seq ?_ | refine Q_norm ?_ | refine Q_seqr ?_ | refine Q_seqx ?_ | refine Q_bl ?_ | refine Q_blr ?_ | refine Q_blx ?_ | refine Q_blo rfl ?_ | refine R_block ?_ | refine R_skip ?_ | refine R_exit ?_ | refine R_ret ?_ | refine I_true ?_ | refine I_false ?_ | refine N_exit ?_ | refine N_ret ?_
              | ((first | apply R_op | apply R_op0)
                 · ((repeat (first | simp (maxDischargeDepth := 9) only [RA, Nat.reduceEqDiff, Nat.reduceLT, Nat.reduceLeDiff, Nat.reduceAdd, Nat.reduceSub, Nat.reduceMul, Nat.reduceDiv, Nat.reduceMod, Nat.reducePow, Nat.reduceBEq, Nat.reduceGT, reduceIte, l6, hle, hsub, hia6, hld6, T1, T3, T4, T111, K1_0, K2_0, K2_19, K2_20, K2_21, K2_22, K2_23, K2_24, K2_25, K2_26, K2_27, K2_28, K2_29, K2_30, K2_31, K2_32, K2_33, K2_34, K3_0, K3_19, K3_20, K3_21, K3_22, K3_23, K3_24, K3_25, K3_26, K3_27, K3_28, K3_29, K3_30, K3_31, K3_32, K3_33, K3_34, K4_0, K4_7, K4_8, K4_19, K4_20, K4_21, K4_22, K4_23, K4_24, K4_25, K4_26, K4_27, K4_28, K4_29, K4_30, K4_31, K4_32, K4_33, K4_34] | simp (disch := first | assumption | omega) only [RV, l6, hle, hsub, hia6, hld6, K1_0, K2_0, K2_19, K2_20, K2_21, K2_22, K2_23, K2_24, K2_25, K2_26, K2_27, K2_28, K2_29, K2_30, K2_31, K2_32, K2_33, K2_34, K3_0, K3_19, K3_20, K3_21, K3_22, K3_23, K3_24, K3_25, K3_26, K3_27, K3_28, K3_29, K3_30, K3_31, K3_32, K3_33, K3_34, K4_0, K4_7, K4_8, K4_19, K4_20, K4_21, K4_22, K4_23, K4_24, K4_25, K4_26, K4_27, K4_28, K4_29, K4_30, K4_31, K4_32, K4_33, K4_34])) <;> rfl))
              | (apply R_cond
                 · (simp only [RE, Nat.reduceEqDiff, Nat.reduceLT, Nat.reduceLeDiff, Nat.reduceBEq, reduceIte] <;> rfl))
              | (apply R_grd
                 · (simp only [yieldedA, RY, Nat.reduceEqDiff, reduceIte] <;> rfl)))
            refine R_stI (v := e6 5) (x := lz.getD k 0 + 5 * hi) (i := k) inf3 rfl ?_ ?_ own6 hkl ?_
            · first | rfl | (first | rw [ev_tmp] | rw [ev_const] | skip) <;> simp only [upd_apply, Nat.reduceEqDiff, if_true, if_false, reduceIte, lit_iv, lit_w8, K1_0, K2_0, K2_19, K2_20, K2_21, K2_22, K2_23, K2_24, K2_25, K2_26, K2_27, K2_28, K2_29, K2_30, K2_31, K2_32, K2_33, K2_34, K3_0, K3_19, K3_20, K3_21, K3_22, K3_23, K3_24, K3_25, K3_26, K3_27, K3_28, K3_29, K3_30, K3_31, K3_32, K3_33, K3_34, K4_0, K4_7, K4_8, K4_19, K4_20, K4_21, K4_22, K4_23, K4_24, K4_25, K4_26, K4_27, K4_28, K4_29, K4_30, K4_31, K4_32, K4_33, K4_34]
            · first | rfl | (first | rw [ev_tmp] | rw [ev_const] | skip) <;> simp only [upd_apply, Nat.reduceEqDiff, if_true, if_false, reduceIte, lit_iv, lit_w8, K1_0, K2_0, K2_19, K2_20, K2_21, K2_22, K2_23, K2_24, K2_25, K2_26, K2_27, K2_28, K2_29, K2_30, K2_31, K2_32, K2_33, K2_34, K3_0, K3_19, K3_20, K3_21, K3_22, K3_23, K3_24, K3_25, K3_26, K3_27, K3_28, K3_29, K3_30, K3_31, K3_32, K3_33, K3_34, K4_0, K4_7, K4_8, K4_19, K4_20, K4_21, K4_22, K4_23, K4_24, K4_25, K4_26, K4_27, K4_28, K4_29, K4_30, K4_31, K4_32, K4_33, K4_34]
            intro h7 own7 wt7 n7
            repeat (first
              | refine R_seq ?_ | refine R_region ?_ | refine R_nil ?_ | refine Q_seq ?_ | refine Q_norm ?_ | refine Q_seqr ?_ | refine Q_seqx ?_ | refine Q_bl ?_ | refine Q_blr ?_ | refine Q_blx ?_ | refine Q_blo rfl ?_ | refine R_block ?_ | refine R_skip ?_ | refine R_exit ?_ | refine R_ret ?_ | refine I_true ?_ | refine I_false ?_ | refine N_exit ?_ | refine N_ret ?_
              | ((first | apply R_op | apply R_op0)
                 · ((repeat (first | simp (maxDischargeDepth := 9) only [RA, Nat.reduceEqDiff, Nat.reduceLT, Nat.reduceLeDiff, Nat.reduceAdd, Nat.reduceSub, Nat.reduceMul, Nat.reduceDiv, Nat.reduceMod, Nat.reducePow, Nat.reduceBEq, Nat.reduceGT, reduceIte, T1, T3, T4, T111, K1_0, K2_0, K2_19, K2_20, K2_21, K2_22, K2_23, K2_24, K2_25, K2_26, K2_27, K2_28, K2_29, K2_30, K2_31, K2_32, K2_33, K2_34, K3_0, K3_19, K3_20, K3_21, K3_22, K3_23, K3_24, K3_25, K3_26, K3_27, K3_28, K3_29, K3_30, K3_31, K3_32, K3_33, K3_34, K4_0, K4_7, K4_8, K4_19, K4_20, K4_21, K4_22, K4_23, K4_24, K4_25, K4_26, K4_27, K4_28, K4_29, K4_30, K4_31, K4_32, K4_33, K4_34] | simp (disch := first | assumption | omega) only [RV, K1_0, K2_0, K2_19, K2_20, K2_21, K2_22, K2_23, K2_24, K2_25, K2_26, K2_27, K2_28, K2_29, K2_30, K2_31, K2_32, K2_33, K2_34, K3_0, K3_19, K3_20, K3_21, K3_22, K3_23, K3_24, K3_25, K3_26, K3_27, K3_28, K3_29, K3_30, K3_31, K3_32, K3_33, K3_34, K4_0, K4_7, K4_8, K4_19, K4_20, K4_21, K4_22, K4_23, K4_24, K4_25, K4_26, K4_27, K4_28, K4_29, K4_30, K4_31, K4_32, K4_33, K4_34])) <;> rfl))
              | (apply R_cond
                 · (simp only [RE, Nat.reduceEqDiff, Nat.reduceLT, Nat.reduceLeDiff, Nat.reduceBEq, reduceIte] <;> rfl))
              | (apply R_grd
                 · (simp only [yieldedA, RY, Nat.reduceEqDiff, reduceIte] <;> rfl)))
            refine ⟨rfl, by first | rfl | simp only [List.map_cons, List.map_nil, RH, Nat.reduceAdd, Nat.reduceEqDiff, reduceIte, T1, T3, T4, T111, K1_0, K2_0, K2_19, K2_20, K2_21, K2_22, K2_23, K2_24, K2_25, K2_26, K2_27, K2_28, K2_29, K2_30, K2_31, K2_32, K2_33, K2_34, K3_0, K3_19, K3_20, K3_21, K3_22, K3_23, K3_24, K3_25, K3_26, K3_27, K3_28, K3_29, K3_30, K3_31, K3_32, K3_33, K3_34, K4_0, K4_7, K4_8, K4_19, K4_20, K4_21, K4_22, K4_23, K4_24, K4_25, K4_26, K4_27, K4_28, K4_29, K4_30, K4_31, K4_32, K4_33, K4_34], by first | rfl | simp only [List.map_cons, List.map_nil, RH, Nat.reduceAdd, Nat.reduceEqDiff, reduceIte, T1, T3, T4, T111, K1_0, K2_0, K2_19, K2_20, K2_21, K2_22, K2_23, K2_24, K2_25, K2_26, K2_27, K2_28, K2_29, K2_30, K2_31, K2_32, K2_33, K2_34, K3_0, K3_19, K3_20, K3_21, K3_22, K3_23, K3_24, K3_25, K3_26, K3_27, K3_28, K3_29, K3_30, K3_31, K3_32, K3_33, K3_34, K4_0, K4_7, K4_8, K4_19, K4_20, K4_21, K4_22, K4_23, K4_24, K4_25, K4_26, K4_27, K4_28, K4_29, K4_30, K4_31, K4_32, K4_33, K4_34], by first | (simp only [RH, T1, T3, T4, T111, K1_0, K2_0, K2_19, K2_20, K2_21, K2_22, K2_23, K2_24, K2_25, K2_26, K2_27, K2_28, K2_29, K2_30, K2_31, K2_32, K2_33, K2_34, K3_0, K3_19, K3_20, K3_21, K3_22, K3_23, K3_24, K3_25, K3_26, K3_27, K3_28, K3_29, K3_30, K3_31, K3_32, K3_33, K3_34, K4_0, K4_7, K4_8, K4_19, K4_20, K4_21, K4_22, K4_23, K4_24, K4_25, K4_26, K4_27, K4_28, K4_29, K4_30, K4_31, K4_32, K4_33, K4_34]; done) | ((try simp only [RH, T1, T3, T4, T111, K1_0, K2_0, K2_19, K2_20, K2_21, K2_22, K2_23, K2_24, K2_25, K2_26, K2_27, K2_28, K2_29, K2_30, K2_31, K2_32, K2_33, K2_34, K3_0, K3_19, K3_20, K3_21, K3_22, K3_23, K3_24, K3_25, K3_26, K3_27, K3_28, K3_29, K3_30, K3_31, K3_32, K3_33, K3_34, K4_0, K4_7, K4_8, K4_19, K4_20, K4_21, K4_22, K4_23, K4_24, K4_25, K4_26, K4_27, K4_28, K4_29, K4_30, K4_31, K4_32, K4_33, K4_34]); omega), ?_⟩
            exact ⟨by (try simp only [List.map_cons, List.map_nil, RH, Nat.reduceAdd, Nat.reduceEqDiff, reduceIte, ev_tmp, ev_const, lit_iv, lit_w8, lit_w32, lit_w64, envOf0, envOf1, envOf2, envOf3, envOf4, envOf5, T1, T3, T4, T111, K1_0, K2_0, K2_19, K2_20, K2_21, K2_22, K2_23, K2_24, K2_25, K2_26, K2_27, K2_28, K2_29, K2_30, K2_31, K2_32, K2_33, K2_34, K3_0, K3_19, K3_20, K3_21, K3_22, K3_23, K3_24, K3_25, K3_26, K3_27, K3_28, K3_29, K3_30, K3_31, K3_32, K3_33, K3_34, K4_0, K4_7, K4_8, K4_19, K4_20, K4_21, K4_22, K4_23, K4_24, K4_25, K4_26, K4_27, K4_28, K4_29, K4_30, K4_31, K4_32, K4_33, K4_34]); rfl, F6.trans (wt7.owFr n6 own6), _, by (try simp only [List.map_cons, List.map_nil, RH, Nat.reduceAdd, Nat.reduceEqDiff, reduceIte, ev_tmp, ev_const, lit_iv, lit_w8, lit_w32, lit_w64, envOf0, envOf1, envOf2, envOf3, envOf4, envOf5, T1, T3, T4, T111, K1_0, K2_0, K2_19, K2_20, K2_21, K2_22, K2_23, K2_24, K2_25, K2_26, K2_27, K2_28, K2_29, K2_30, K2_31, K2_32, K2_33, K2_34, K3_0, K3_19, K3_20, K3_21, K3_22, K3_23, K3_24, K3_25, K3_26, K3_27, K3_28, K3_29, K3_30, K3_31, K3_32, K3_33, K3_34, K4_0, K4_7, K4_8, K4_19, K4_20, K4_21, K4_22, K4_23, K4_24, K4_25, K4_26, K4_27, K4_28, K4_29, K4_30, K4_31, K4_32, K4_33, K4_34]); exact own7, hnext⟩
        · intro e5 h5 hK hO hN ⟨j7, F5, lw, own5, la⟩
          simp only [List.map_cons, List.map_nil, List.cons.injEq, and_true, RH, Nat.reduceAdd, Nat.reduceEqDiff, reduceIte, envOf0, envOf1, envOf2, envOf3, envOf4, envOf5, K1_0, K2_0, K2_19, K2_20, K2_21, K2_22, K2_23, K2_24, K2_25, K2_26, K2_27, K2_28, K2_29, K2_30, K2_31, K2_32, K2_33, K2_34] at hK
          obtain ⟨K3_0, K3_19, K3_20, K3_21, K3_22, K3_23, K3_24, K3_25, K3_26, K3_27, K3_28, K3_29, K3_30, K3_31, K3_32, K3_33, K3_34⟩ := hK
          try simp only [RH] at hN
          have b5 := b1.fr0 F5
          have n5 := F5.1
          have hle : ¬ 16 + (ys.length - 16) < ys.length := by omega
          have hfold := highS_fold hy hyl17
          have hV2 := la.V
          have hll := la.len
          have hM : ∀ x ∈ lw, x ≤ 1073741824 := fun x hx' => by have := la.le x hx'; omega
          rw [hfold] at hV2
          repeat (first
            | refine R_seq ?_ | refine R_region ?_ | refine R_nil ?_ | refine Q_seq ?_ | refine Q_norm ?_ | refine Q_seqr ?_ | refine Q_seqx ?_ | refine Q_bl ?_ | refine Q_blr ?_ | refine Q_blx ?_ | refine Q_blo rfl ?_ | refine R_block ?_ | refine R_skip ?_ | refine R_exit ?_ | refine R_ret ?_ | refine I_true ?_ | refine I_false ?_ | refine N_exit ?_ | refine N_ret ?_
            | ((first | apply R_op | apply R_op0)
               · ((repeat (first | simp (maxDischargeDepth := 9) only [RA, Nat.reduceEqDiff, Nat.reduceLT, Nat.reduceLeDiff, Nat.reduceAdd, Nat.reduceSub, Nat.reduceMul, Nat.reduceDiv, Nat.reduceMod, Nat.reducePow, Nat.reduceBEq, Nat.reduceGT, reduceIte, j7, S111len b5, hle, T1, T3, T4, T111, K1_0, K2_0, K2_19, K2_20, K2_21, K2_22, K2_23, K2_24, K2_25, K2_26, K2_27, K2_28, K2_29, K2_30, K2_31, K2_32, K2_33, K2_34, K3_0, K3_19, K3_20, K3_21, K3_22, K3_23, K3_24, K3_25, K3_26, K3_27, K3_28, K3_29, K3_30, K3_31, K3_32, K3_33, K3_34] | simp (disch := first | assumption | omega) only [RV, j7, S111len b5, hle, K1_0, K2_0, K2_19, K2_20, K2_21, K2_22, K2_23, K2_24, K2_25, K2_26, K2_27, K2_28, K2_29, K2_30, K2_31, K2_32, K2_33, K2_34, K3_0, K3_19, K3_20, K3_21, K3_22, K3_23, K3_24, K3_25, K3_26, K3_27, K3_28, K3_29, K3_30, K3_31, K3_32, K3_33, K3_34])) <;> rfl))
            | (apply R_cond
               · (simp only [RE, Nat.reduceEqDiff, Nat.reduceLT, Nat.reduceLeDiff, Nat.reduceBEq, reduceIte] <;> rfl))
            | (apply R_grd
               · (simp only [yieldedA, RY, Nat.reduceEqDiff, reduceIte] <;> rfl)))
          refine R_fn ?_ (carry105 q h5 (e5 5) lw own5.sl hM (by omega)) ?_
          · rfl
          intro v6 h6 ⟨own6, F6⟩
          have n6 := F6.1
          have hcv := carryL_V lw 0
          have hcl := carryL_length hM (c := 0) (by omega)
          have hcb := carryL_lt lw 0
          rw [Nat.add_zero, hV2] at hcv
          repeat (first
            | refine R_seq ?_ | refine R_region ?_ | refine R_nil ?_ | refine Q_seq ?_ | refine Q_norm ?_ | refine Q_seqr ?_ | refine Q_seqx ?_ | refine Q_bl ?_ | refine Q_blr ?_ | refine Q_blx ?_ | refine Q_blo rfl ?_ | refine R_block ?_ | refine R_skip ?_ | refine R_exit ?_ | refine R_ret ?_ | refine I_true ?_ | refine I_false ?_ | refine N_exit ?_ | refine N_ret ?_
            | ((first | apply R_op | apply R_op0)
               · ((repeat (first | simp (maxDischargeDepth := 9) only [RA, Nat.reduceEqDiff, Nat.reduceLT, Nat.reduceLeDiff, Nat.reduceAdd, Nat.reduceSub, Nat.reduceMul, Nat.reduceDiv, Nat.reduceMod, Nat.reducePow, Nat.reduceBEq, Nat.reduceGT, reduceIte, T1, T3, T4, T111, K1_0, K2_0, K2_19, K2_20, K2_21, K2_22, K2_23, K2_24, K2_25, K2_26, K2_27, K2_28, K2_29, K2_30, K2_31, K2_32, K2_33, K2_34, K3_0, K3_19, K3_20, K3_21, K3_22, K3_23, K3_24, K3_25, K3_26, K3_27, K3_28, K3_29, K3_30, K3_31, K3_32, K3_33, K3_34] | simp (disch := first | assumption | omega) only [RV, K1_0, K2_0, K2_19, K2_20, K2_21, K2_22, K2_23, K2_24, K2_25, K2_26, K2_27, K2_28, K2_29, K2_30, K2_31, K2_32, K2_33, K2_34, K3_0, K3_19, K3_20, K3_21, K3_22, K3_23, K3_24, K3_25, K3_26, K3_27, K3_28, K3_29, K3_30, K3_31, K3_32, K3_33, K3_34])) <;> rfl))
            | (apply R_cond
               · (simp only [RE, Nat.reduceEqDiff, Nat.reduceLT, Nat.reduceLeDiff, Nat.reduceBEq, reduceIte] <;> rfl))
            | (apply R_grd
               · (simp only [yieldedA, RY, Nat.reduceEqDiff, reduceIte] <;> rfl)))
          refine ⟨rfl, by first | rfl | simp only [List.map_cons, List.map_nil, RH, Nat.reduceAdd, Nat.reduceEqDiff, reduceIte, T1, T3, T4, T111, K1_0, K2_0, K2_19, K2_20, K2_21, K2_22, K2_23, K2_24, K2_25, K2_26, K2_27, K2_28, K2_29, K2_30, K2_31, K2_32, K2_33, K2_34, K3_0, K3_19, K3_20, K3_21, K3_22, K3_23, K3_24, K3_25, K3_26, K3_27, K3_28, K3_29, K3_30, K3_31, K3_32, K3_33, K3_34], by first | rfl | simp only [List.map_cons, List.map_nil, RH, Nat.reduceAdd, Nat.reduceEqDiff, reduceIte, T1, T3, T4, T111, K1_0, K2_0, K2_19, K2_20, K2_21, K2_22, K2_23, K2_24, K2_25, K2_26, K2_27, K2_28, K2_29, K2_30, K2_31, K2_32, K2_33, K2_34, K3_0, K3_19, K3_20, K3_21, K3_22, K3_23, K3_24, K3_25, K3_26, K3_27, K3_28, K3_29, K3_30, K3_31, K3_32, K3_33, K3_34], by first | (simp only [RH, T1, T3, T4, T111, K1_0, K2_0, K2_19, K2_20, K2_21, K2_22, K2_23, K2_24, K2_25, K2_26, K2_27, K2_28, K2_29, K2_30, K2_31, K2_32, K2_33, K2_34, K3_0, K3_19, K3_20, K3_21, K3_22, K3_23, K3_24, K3_25, K3_26, K3_27, K3_28, K3_29, K3_30, K3_31, K3_32, K3_33, K3_34]; done) | ((try simp only [RH, T1, T3, T4, T111, K1_0, K2_0, K2_19, K2_20, K2_21, K2_22, K2_23, K2_24, K2_25, K2_26, K2_27, K2_28, K2_29, K2_30, K2_31, K2_32, K2_33, K2_34, K3_0, K3_19, K3_20, K3_21, K3_22, K3_23, K3_24, K3_25, K3_26, K3_27, K3_28, K3_29, K3_30, K3_31, K3_32, K3_33, K3_34]); omega), ?_⟩
          refine ⟨F1.trans ((F5.trans (F6.le (by omega))).le (by omega)), carryL lw 0, by (try simp only [List.map_cons, List.map_nil, RH, Nat.reduceAdd, Nat.reduceEqDiff, reduceIte, ev_tmp, ev_const, lit_iv, lit_w8, lit_w32, lit_w64, envOf0, envOf1, envOf2, envOf3, envOf4, envOf5, T1, T3, T4, T111, K1_0, K2_0, K2_19, K2_20, K2_21, K2_22, K2_23, K2_24, K2_25, K2_26, K2_27, K2_28, K2_29, K2_30, K2_31, K2_32, K2_33, K2_34, K3_0, K3_19, K3_20, K3_21, K3_22, K3_23, K3_24, K3_25, K3_26, K3_27, K3_28, K3_29, K3_30, K3_31, K3_32, K3_33, K3_34]); exact own6.sl, hcb, by omega, ?_, ?_⟩
          · rw [hcv, hR, redR_high hV]; omega
          · rw [hcv, fold1_mod]; exact hP
  · intro e1 h1 hK hO hN ⟨F1, ys, b1, hy, hyl, hR, hP⟩
    try simp only [RH] at hN
    have hV := redR_zero hR
    have hnab : aboveL ys (ys.length - 16) = false := by
      cases h9 : aboveL ys (ys.length - 16) with
      | false => rfl
      | true => have := (aboveL_iff hy).1 h9; omega
    have hP2 : leV ys % P130 = leV xs % P130 := hP
    have hmod := rest_mod hV
    have g : ∀ i, ys.getD i 0 ≤ 255 := fun i => getD_le (fun y hy' => by have := hy y hy'; omega) i
    repeat (first
      | refine R_seq ?_ | refine R_region ?_ | refine R_nil ?_ | refine Q_seq ?_ | refine Q_norm ?_ | refine Q_seqr ?_ | refine Q_seqx ?_ | refine Q_bl ?_ | refine Q_blr ?_ | refine Q_blx ?_ | refine Q_blo rfl ?_ | refine R_block ?_ | refine R_skip ?_ | refine R_exit ?_ | refine R_ret ?_ | refine I_true ?_ | refine I_false ?_ | refine N_exit ?_ | refine N_ret ?_
      | ((first | apply R_op | apply R_op0)
         · ((repeat (first | simp (maxDischargeDepth := 9) only [RA, Nat.reduceEqDiff, Nat.reduceLT, Nat.reduceLeDiff, Nat.reduceAdd, Nat.reduceSub, Nat.reduceMul, Nat.reduceDiv, Nat.reduceMod, Nat.reducePow, Nat.reduceBEq, Nat.reduceGT, reduceIte, T1, T3, T4, T111] | simp (disch := first | assumption | omega) only [RV])) <;> rfl))
      | (apply R_cond
         · (simp only [RE, Nat.reduceEqDiff, Nat.reduceLT, Nat.reduceLeDiff, Nat.reduceBEq, reduceIte] <;> rfl))
      | (apply R_grd
         · (simp only [yieldedA, RY, Nat.reduceEqDiff, reduceIte] <;> rfl)))
    refine W_loopK [0] [] (fun k e2 h2 => e2 4 = iv (16 + k) ∧ e2 3 = .bool (aboveL ys k) ∧ h2 = h1) (ys.length - 16) (by omega) ?_ ?_ ?_
    · exact ⟨by (try simp only [List.map_cons, List.map_nil, RH, Nat.reduceAdd, Nat.reduceEqDiff, reduceIte, ev_tmp, ev_const, lit_iv, lit_w8, lit_w32, lit_w64, envOf0, envOf1, envOf2, envOf3, envOf4, envOf5, T1, T3, T4, T111]), by (try simp only [List.map_cons, List.map_nil, RH, Nat.reduceAdd, Nat.reduceEqDiff, reduceIte, ev_tmp, ev_const, lit_iv, lit_w8, lit_w32, lit_w64, envOf0, envOf1, envOf2, envOf3, envOf4, envOf5, T1, T3, T4, T111]); unfold aboveL; rfl, rfl⟩
    · intro k hk e2 h2 hK hO hN ⟨j4, j3, hh⟩
      subst hh
      simp only [List.map_cons, List.map_nil, List.cons.injEq, and_true, RH, Nat.reduceAdd, Nat.reduceEqDiff, reduceIte, envOf0, envOf1, envOf2, envOf3, envOf4, envOf5] at hK
      have K1_0 := hK
      try simp only [RH] at hN
      have hk16 : 16 + k < ys.length := by omega
      have hld := iv_ld Try.underlying3 inf3 b1 fr_refl hk16
      have hia := S111ia b1 hk16
      have hab1 := aboveL_succ ys k
      generalize ys.getD (16 + k) 0 = x at hld hab1
      rcases hbk : aboveL ys k with _ | _
      · rw [hbk] at j3 hab1
        by_cases h0 : 0 < x
        · by_cases h16 : 16 < 16 + k
          · rw [decide_eq_true h0, decide_eq_true h16] at hab1
            have hv : aboveL ys (k + 1) = true := hab1
            repeat (first
              | refine R_seq ?_ | refine R_region ?_ | refine R_nil ?_ | refine Q_seq ?_ | refine Q_norm ?_ | refine Q_seqr ?_ | refine Q_seqx ?_ | refine Q_bl ?_ | refine Q_blr ?_ | refine Q_blx ?_ | refine Q_blo rfl ?_ | refine R_block ?_ | refine R_skip ?_ | refine R_exit ?_ | refine R_ret ?_ | refine I_true ?_ | refine I_false ?_ | refine N_exit ?_ | refine N_ret ?_
              | ((first | apply R_op | apply R_op0)
                 · ((repeat (first | simp (maxDischargeDepth := 9) only [RA, Nat.reduceEqDiff, Nat.reduceLT, Nat.reduceLeDiff, Nat.reduceAdd, Nat.reduceSub, Nat.reduceMul, Nat.reduceDiv, Nat.reduceMod, Nat.reducePow, Nat.reduceBEq, Nat.reduceGT, reduceIte, j4, j3, S111len b1, hk16, hia, hld, eq_true h0, eq_true h16, T1, T3, T4, T111, K1_0] | simp (disch := first | assumption | omega) only [RV, j4, j3, S111len b1, hk16, hia, hld, eq_true h0, eq_true h16, K1_0])) <;> rfl))
              | (apply R_cond
                 · (simp only [RE, Nat.reduceEqDiff, Nat.reduceLT, Nat.reduceLeDiff, Nat.reduceBEq, reduceIte] <;> rfl))
              | (apply R_grd
                 · (simp only [yieldedA, RY, Nat.reduceEqDiff, reduceIte] <;> rfl))
              | (apply R_grdN
                 · (simp only [yieldedA, RY, Nat.reduceEqDiff, reduceIte] <;> rfl)))
            refine ⟨rfl, by first | rfl | simp only [List.map_cons, List.map_nil, RH, Nat.reduceAdd, Nat.reduceEqDiff, reduceIte, T1, T3, T4, T111, K1_0], by first | rfl | simp only [List.map_cons, List.map_nil, RH, Nat.reduceAdd, Nat.reduceEqDiff, reduceIte, T1, T3, T4, T111, K1_0], by first | (simp only [RH, T1, T3, T4, T111, K1_0]; done) | ((try simp only [RH, T1, T3, T4, T111, K1_0]); omega), ?_⟩
            exact ⟨by (try simp only [List.map_cons, List.map_nil, RH, Nat.reduceAdd, Nat.reduceEqDiff, reduceIte, ev_tmp, ev_const, lit_iv, lit_w8, lit_w32, lit_w64, envOf0, envOf1, envOf2, envOf3, envOf4, envOf5, T1, T3, T4, T111, K1_0]); rfl, by (try simp only [List.map_cons, List.map_nil, RH, Nat.reduceAdd, Nat.reduceEqDiff, reduceIte, ev_tmp, ev_const, lit_iv, lit_w8, lit_w32, lit_w64, envOf0, envOf1, envOf2, envOf3, envOf4, envOf5, T1, T3, T4, T111, K1_0]); rw [hv], rfl⟩
          · by_cases h3 : 3 < x
            · rw [decide_eq_true h0, decide_eq_false h16, decide_eq_true h3] at hab1
              have hv : aboveL ys (k + 1) = true := hab1
              repeat (first
                | refine R_seq ?_ | refine R_region ?_ | refine R_nil ?_ | refine Q_seq ?_ | refine Q_norm ?_ | refine Q_seqr ?_ | refine Q_seqx ?_ | refine Q_bl ?_ | refine Q_blr ?_ | refine Q_blx ?_ | refine Q_blo rfl ?_ | refine R_block ?_ | refine R_skip ?_ | refine R_exit ?_ | refine R_ret ?_ | refine I_true ?_ | refine I_false ?_ | refine N_exit ?_ | refine N_ret ?_
                | ((first | apply R_op | apply R_op0)
                   · ((repeat (first | simp (maxDischargeDepth := 9) only [RA, Nat.reduceEqDiff, Nat.reduceLT, Nat.reduceLeDiff, Nat.reduceAdd, Nat.reduceSub, Nat.reduceMul, Nat.reduceDiv, Nat.reduceMod, Nat.reducePow, Nat.reduceBEq, Nat.reduceGT, reduceIte, j4, j3, S111len b1, hk16, hia, hld, eq_true h0, eq_false h16, eq_true h3, T1, T3, T4, T111, K1_0] | simp (disch := first | assumption | omega) only [RV, j4, j3, S111len b1, hk16, hia, hld, eq_true h0, eq_false h16, eq_true h3, K1_0])) <;> rfl))
                | (apply R_cond
                   · (simp only [RE, Nat.reduceEqDiff, Nat.reduceLT, Nat.reduceLeDiff, Nat.reduceBEq, reduceIte] <;> rfl))
                | (apply R_grd
                   · (simp only [yieldedA, RY, Nat.reduceEqDiff, reduceIte] <;> rfl))
                | (apply R_grdN
                   · (simp only [yieldedA, RY, Nat.reduceEqDiff, reduceIte] <;> rfl)))
              refine ⟨rfl, by first | rfl | simp only [List.map_cons, List.map_nil, RH, Nat.reduceAdd, Nat.reduceEqDiff, reduceIte, T1, T3, T4, T111, K1_0], by first | rfl | simp only [List.map_cons, List.map_nil, RH, Nat.reduceAdd, Nat.reduceEqDiff, reduceIte, T1, T3, T4, T111, K1_0], by first | (simp only [RH, T1, T3, T4, T111, K1_0]; done) | ((try simp only [RH, T1, T3, T4, T111, K1_0]); omega), ?_⟩
              exact ⟨by (try simp only [List.map_cons, List.map_nil, RH, Nat.reduceAdd, Nat.reduceEqDiff, reduceIte, ev_tmp, ev_const, lit_iv, lit_w8, lit_w32, lit_w64, envOf0, envOf1, envOf2, envOf3, envOf4, envOf5, T1, T3, T4, T111, K1_0]); rfl, by (try simp only [List.map_cons, List.map_nil, RH, Nat.reduceAdd, Nat.reduceEqDiff, reduceIte, ev_tmp, ev_const, lit_iv, lit_w8, lit_w32, lit_w64, envOf0, envOf1, envOf2, envOf3, envOf4, envOf5, T1, T3, T4, T111, K1_0]); rw [hv], rfl⟩
            · rw [decide_eq_true h0, decide_eq_false h16, decide_eq_false h3] at hab1
              have hv : aboveL ys (k + 1) = false := hab1
              repeat (first
                | refine R_seq ?_ | refine R_region ?_ | refine R_nil ?_ | refine Q_seq ?_ | refine Q_norm ?_ | refine Q_seqr ?_ | refine Q_seqx ?_ | refine Q_bl ?_ | refine Q_blr ?_ | refine Q_blx ?_ | refine Q_blo rfl ?_ | refine R_block ?_ | refine R_skip ?_ | refine R_exit ?_ | refine R_ret ?_ | refine I_true ?_ | refine I_false ?_ | refine N_exit ?_ | refine N_ret ?_
                | ((first | apply R_op | apply R_op0)
                   · ((repeat (first | simp (maxDischargeDepth := 9) only [RA, Nat.reduceEqDiff, Nat.reduceLT, Nat.reduceLeDiff, Nat.reduceAdd, Nat.reduceSub, Nat.reduceMul, Nat.reduceDiv, Nat.reduceMod, Nat.reducePow, Nat.reduceBEq, Nat.reduceGT, reduceIte, j4, j3, S111len b1, hk16, hia, hld, eq_true h0, eq_false h16, eq_false h3, T1, T3, T4, T111, K1_0] | simp (disch := first | assumption | omega) only [RV, j4, j3, S111len b1, hk16, hia, hld, eq_true h0, eq_false h16, eq_false h3, K1_0])) <;> rfl))
                | (apply R_cond
                   · (simp only [RE, Nat.reduceEqDiff, Nat.reduceLT, Nat.reduceLeDiff, Nat.reduceBEq, reduceIte] <;> rfl))
                | (apply R_grd
                   · (simp only [yieldedA, RY, Nat.reduceEqDiff, reduceIte] <;> rfl))
                | (apply R_grdN
                   · (simp only [yieldedA, RY, Nat.reduceEqDiff, reduceIte] <;> rfl)))
              refine ⟨rfl, by first | rfl | simp only [List.map_cons, List.map_nil, RH, Nat.reduceAdd, Nat.reduceEqDiff, reduceIte, T1, T3, T4, T111, K1_0], by first | rfl | simp only [List.map_cons, List.map_nil, RH, Nat.reduceAdd, Nat.reduceEqDiff, reduceIte, T1, T3, T4, T111, K1_0], by first | (simp only [RH, T1, T3, T4, T111, K1_0]; done) | ((try simp only [RH, T1, T3, T4, T111, K1_0]); omega), ?_⟩
              exact ⟨by (try simp only [List.map_cons, List.map_nil, RH, Nat.reduceAdd, Nat.reduceEqDiff, reduceIte, ev_tmp, ev_const, lit_iv, lit_w8, lit_w32, lit_w64, envOf0, envOf1, envOf2, envOf3, envOf4, envOf5, T1, T3, T4, T111, K1_0]); rfl, by (try simp only [List.map_cons, List.map_nil, RH, Nat.reduceAdd, Nat.reduceEqDiff, reduceIte, ev_tmp, ev_const, lit_iv, lit_w8, lit_w32, lit_w64, envOf0, envOf1, envOf2, envOf3, envOf4, envOf5, T1, T3, T4, T111, K1_0]); rw [hv], rfl⟩
        · rw [decide_eq_false h0] at hab1
          have hv : aboveL ys (k + 1) = false := hab1
          repeat (first
            | refine R_seq ?_ | refine R_region ?_ | refine R_nil ?_ | refine Q_seq ?_ | refine Q_norm ?_ | refine Q_seqr ?_ | refine Q_seqx ?_ | refine Q_bl ?_ | refine Q_blr ?_ | refine Q_blx ?_ | refine Q_blo rfl ?_ | refine R_block ?_ | refine R_skip ?_ | refine R_exit ?_ | refine R_ret ?_ | refine I_true ?_ | refine I_false ?_ | refine N_exit ?_ | refine N_ret ?_
            | ((first | apply R_op | apply R_op0)
               · ((repeat (first | simp (maxDischargeDepth := 9) only [RA, Nat.reduceEqDiff, Nat.reduceLT, Nat.reduceLeDiff, Nat.reduceAdd, Nat.reduceSub, Nat.reduceMul, Nat.reduceDiv, Nat.reduceMod, Nat.reducePow, Nat.reduceBEq, Nat.reduceGT, reduceIte, j4, j3, S111len b1, hk16, hia, hld, eq_false h0, T1, T3, T4, T111, K1_0] | simp (disch := first | assumption | omega) only [RV, j4, j3, S111len b1, hk16, hia, hld, eq_false h0, K1_0])) <;> rfl))
            | (apply R_cond
               · (simp only [RE, Nat.reduceEqDiff, Nat.reduceLT, Nat.reduceLeDiff, Nat.reduceBEq, reduceIte] <;> rfl))
            | (apply R_grd
               · (simp only [yieldedA, RY, Nat.reduceEqDiff, reduceIte] <;> rfl))
            | (apply R_grdN
               · (simp only [yieldedA, RY, Nat.reduceEqDiff, reduceIte] <;> rfl)))
          refine ⟨rfl, by first | rfl | simp only [List.map_cons, List.map_nil, RH, Nat.reduceAdd, Nat.reduceEqDiff, reduceIte, T1, T3, T4, T111, K1_0], by first | rfl | simp only [List.map_cons, List.map_nil, RH, Nat.reduceAdd, Nat.reduceEqDiff, reduceIte, T1, T3, T4, T111, K1_0], by first | (simp only [RH, T1, T3, T4, T111, K1_0]; done) | ((try simp only [RH, T1, T3, T4, T111, K1_0]); omega), ?_⟩
          exact ⟨by (try simp only [List.map_cons, List.map_nil, RH, Nat.reduceAdd, Nat.reduceEqDiff, reduceIte, ev_tmp, ev_const, lit_iv, lit_w8, lit_w32, lit_w64, envOf0, envOf1, envOf2, envOf3, envOf4, envOf5, T1, T3, T4, T111, K1_0]); rfl, by (try simp only [List.map_cons, List.map_nil, RH, Nat.reduceAdd, Nat.reduceEqDiff, reduceIte, ev_tmp, ev_const, lit_iv, lit_w8, lit_w32, lit_w64, envOf0, envOf1, envOf2, envOf3, envOf4, envOf5, T1, T3, T4, T111, K1_0]); rw [hv], rfl⟩
      · rw [hbk] at j3 hab1
        have hv : aboveL ys (k + 1) = true := hab1
        repeat (first
          | refine R_seq ?_ | refine R_region ?_ | refine R_nil ?_ | refine Q_seq ?_ | refine Q_norm ?_ | refine Q_seqr ?_ | refine Q_seqx ?_ | refine Q_bl ?_ | refine Q_blr ?_ | refine Q_blx ?_ | refine Q_blo rfl ?_ | refine R_block ?_ | refine R_skip ?_ | refine R_exit ?_ | refine R_ret ?_ | refine I_true ?_ | refine I_false ?_ | refine N_exit ?_ | refine N_ret ?_
          | ((first | apply R_op | apply R_op0)
             · ((repeat (first | simp (maxDischargeDepth := 9) only [RA, Nat.reduceEqDiff, Nat.reduceLT, Nat.reduceLeDiff, Nat.reduceAdd, Nat.reduceSub, Nat.reduceMul, Nat.reduceDiv, Nat.reduceMod, Nat.reducePow, Nat.reduceBEq, Nat.reduceGT, reduceIte, j4, j3, S111len b1, hk16, T1, T3, T4, T111, K1_0] | simp (disch := first | assumption | omega) only [RV, j4, j3, S111len b1, hk16, K1_0])) <;> rfl))
          | (apply R_cond
             · (simp only [RE, Nat.reduceEqDiff, Nat.reduceLT, Nat.reduceLeDiff, Nat.reduceBEq, reduceIte] <;> rfl))
          | (apply R_grd
             · (simp only [yieldedA, RY, Nat.reduceEqDiff, reduceIte] <;> rfl))
          | (apply R_grdN
             · (simp only [yieldedA, RY, Nat.reduceEqDiff, reduceIte] <;> rfl)))
        refine ⟨rfl, by first | rfl | simp only [List.map_cons, List.map_nil, RH, Nat.reduceAdd, Nat.reduceEqDiff, reduceIte, T1, T3, T4, T111, K1_0], by first | rfl | simp only [List.map_cons, List.map_nil, RH, Nat.reduceAdd, Nat.reduceEqDiff, reduceIte, T1, T3, T4, T111, K1_0], by first | (simp only [RH, T1, T3, T4, T111, K1_0]; done) | ((try simp only [RH, T1, T3, T4, T111, K1_0]); omega), ?_⟩
        exact ⟨by (try simp only [List.map_cons, List.map_nil, RH, Nat.reduceAdd, Nat.reduceEqDiff, reduceIte, ev_tmp, ev_const, lit_iv, lit_w8, lit_w32, lit_w64, envOf0, envOf1, envOf2, envOf3, envOf4, envOf5, T1, T3, T4, T111, K1_0]); rfl, by (try simp only [List.map_cons, List.map_nil, RH, Nat.reduceAdd, Nat.reduceEqDiff, reduceIte, ev_tmp, ev_const, lit_iv, lit_w8, lit_w32, lit_w64, envOf0, envOf1, envOf2, envOf3, envOf4, envOf5, T1, T3, T4, T111, K1_0]); rw [hv], rfl⟩
    · intro e2 h2 hK hO hN ⟨j4, j3, hh⟩
      subst hh
      simp only [List.map_cons, List.map_nil, List.cons.injEq, and_true, RH, Nat.reduceAdd, Nat.reduceEqDiff, reduceIte, envOf0, envOf1, envOf2, envOf3, envOf4, envOf5] at hK
      have K1_0 := hK
      try simp only [RH] at hN
      rw [hnab] at j3
      have hle : ¬ 16 + (ys.length - 16) < ys.length := by omega
      repeat (first
        | refine R_seq ?_ | refine R_region ?_ | refine R_nil ?_ | refine Q_seq ?_ | refine Q_norm ?_ | refine Q_seqr ?_ | refine Q_seqx ?_ | refine Q_bl ?_ | refine Q_blr ?_ | refine Q_blx ?_ | refine Q_blo rfl ?_ | refine R_block ?_ | refine R_skip ?_ | refine R_exit ?_ | refine R_ret ?_ | refine I_true ?_ | refine I_false ?_ | refine N_exit ?_ | refine N_ret ?_
        | ((first | apply R_op | apply R_op0)
           · ((repeat (first | simp (maxDischargeDepth := 9) only [RA, Nat.reduceEqDiff, Nat.reduceLT, Nat.reduceLeDiff, Nat.reduceAdd, Nat.reduceSub, Nat.reduceMul, Nat.reduceDiv, Nat.reduceMod, Nat.reducePow, Nat.reduceBEq, Nat.reduceGT, reduceIte, j4, j3, S111len b1, hle, bs1_111, T1, T3, T4, T111, K1_0] | simp (disch := first | assumption | omega) only [RV, j4, j3, S111len b1, hle, bs1_111, K1_0])) <;> rfl))
        | (apply R_cond
           · (simp only [RE, Nat.reduceEqDiff, Nat.reduceLT, Nat.reduceLeDiff, Nat.reduceBEq, reduceIte] <;> rfl))
        | (apply R_grd
           · (simp only [yieldedA, RY, Nat.reduceEqDiff, reduceIte] <;> rfl)))
      have n1 := F1.1
      obtain ⟨H, hH⟩ : ∃ H, H = newRowH h2 .rw 1 [iv 5] := ⟨_, rfl⟩
      rw [← hH]
      have nH : H.nx = h2.nx + 1 := by rw [hH]; simp only [RH]
      have FH : Fr h2.nx h2 H := by rw [hH]; (repeat (first | assumption | exact Fr.refl _ _ | refine Fr.new ?_ ?_ _ _ _ | refine Fr.put ?_ ?_ _ | omega | (simp only [RH]; omega)))
      have ownH : OwI h2.nx H (.slice (some ⟨h2.nx, 0, none⟩) 1 1) (fiveL ys 0) := by
        rw [fiveL_zero]
        exact .mk (k := .rw) (cs' := [iv 5]) (Nat.le_refl _) (by omega) (by simp) (by rw [hH, obj_new, if_pos rfl]) (Nat.le_refl _) (fun _ => rfl) (fun h => by cases h) rfl
      clear hH
      refine W_loopK [0] [] (fun k e3 h3 => e3 10 = iv k ∧ OwI h2.nx h3 (e3 9) (fiveL ys k) ∧ Fr h2.nx h2 h3) 17 (by decide) ?_ ?_ ?_
      · exact ⟨by (try simp only [List.map_cons, List.map_nil, RH, Nat.reduceAdd, Nat.reduceEqDiff, reduceIte, ev_tmp, ev_const, lit_iv, lit_w8, lit_w32, lit_w64, envOf0, envOf1, envOf2, envOf3, envOf4, envOf5, T1, T3, T4, T111, K1_0]), by (try simp only [List.map_cons, List.map_nil, RH, Nat.reduceAdd, Nat.reduceEqDiff, reduceIte, ev_tmp, ev_const, lit_iv, lit_w8, lit_w32, lit_w64, envOf0, envOf1, envOf2, envOf3, envOf4, envOf5, T1, T3, T4, T111, K1_0]); exact ownH, FH⟩
      · intro k hk e3 h3 hK hO hN ⟨j10, own3, F3⟩
        simp only [List.map_cons, List.map_nil, List.cons.injEq, and_true, RH, Nat.reduceAdd, Nat.reduceEqDiff, reduceIte, envOf0, envOf1, envOf2, envOf3, envOf4, envOf5, K1_0] at hK
        have K5_0 := hK
        try simp only [RH] at hN
        have b3 := b1.fr0 F3
        have hat := at104 q h3 (e1 0) ys k b3
        have n3 := F3.1
        have hlr := fiveL_length ys (k := k)
        by_cases h0 : k < 1
        · have hk0 : k = 0 := by omega
          subst hk0
          have h05 : 0 < (fiveL ys 0).length := by rw [hlr]; decide
          have hia := S111ia own3.sl h05
          have hld := iv_ld Try.underlying3 inf3 own3.sl fr_refl h05
          have h5 : (fiveL ys 0).getD 0 0 = 5 := by rw [fiveL_zero]; rfl
          rw [h5] at hld
          have gg := g 0
          repeat (first
            | refine R_seq ?_ | refine R_region ?_ | refine R_nil ?_ | refine Q_seq ?_ | refine Q_norm ?_ | refine Q_seqr ?_ | refine Q_seqx ?_ | refine Q_bl ?_ | refine Q_blr ?_ | refine Q_blx ?_ | refine Q_blo rfl ?_ | refine R_block ?_ | refine R_skip ?_ | refine R_exit ?_ | refine R_ret ?_ | refine I_true ?_ | refine I_false ?_ | refine N_exit ?_ | refine N_ret ?_
            | ((first | apply R_op | apply R_op0)
               · ((repeat (first | simp (maxDischargeDepth := 9) only [RA, Nat.reduceEqDiff, Nat.reduceLT, Nat.reduceLeDiff, Nat.reduceAdd, Nat.reduceSub, Nat.reduceMul, Nat.reduceDiv, Nat.reduceMod, Nat.reducePow, Nat.reduceBEq, Nat.reduceGT, reduceIte, j10, hk, h0, T1, T3, T4, T111, K5_0] | simp (disch := first | assumption | omega) only [RV, j10, hk, h0, K5_0])) <;> rfl))
            | (apply R_cond
               · (simp only [RE, Nat.reduceEqDiff, Nat.reduceLT, Nat.reduceLeDiff, Nat.reduceBEq, reduceIte] <;> rfl))
            | (apply R_grd
               · (simp only [yieldedA, RY, Nat.reduceEqDiff, reduceIte] <;> rfl)))
          refine D_draw [2, 4] (fun _ => True) (by kernel_rfl) ?_
          repeat (first
            | refine D_nil ?_ | refine I_true ?_ | refine I_false ?_
            | ((first | apply D_op | apply D_op0)
               · ((repeat (first | simp (maxDischargeDepth := 9) only [RA, Nat.reduceEqDiff, Nat.reduceLT, Nat.reduceLeDiff, Nat.reduceAdd, Nat.reduceSub, Nat.reduceMul, Nat.reduceDiv, Nat.reduceMod, Nat.reducePow, Nat.reduceBEq, Nat.reduceGT, reduceIte, hia, hld, hat, T1, T3, T4, T111, K5_0] | simp (disch := first | assumption | omega) only [RV, hia, hld, hat, K5_0])) <;> rfl)
               · (intro hF; first | exact chk_pure rfl | exact chk_alloc rfl | exact chk_read rfl | exact chk_iso iso104 | exact chk_call iso104 (fun _ _ _ => rfl) | exact chk_iso iso105 | exact chk_call iso105 (fun _ _ _ => rfl) | (exfalso; revert hF; decide) | ((first | refine chk_load ?_ | refine chk_slice ?_ | refine chk_convert ?_ | refine chk_store ?_ | refine chk_call (by kernel_rfl) ?_); simp only [eq_self, ev_tmp, upd_apply, rowsOfV, List.mem_cons, List.not_mem_nil, or_false, forall_eq, forall_eq_or_imp, obj_put, obj_new, nx_new, nx_put, Nat.reduceEqDiff, if_true, if_false, reduceIte, implies_true, and_self, and_true, true_or, or_true, hia, hld, hat, T1, T3, T4, T111, K5_0])))
            | (apply D_grd
               · (simp only [yieldedA, RY, Nat.reduceEqDiff, reduceIte] <;> rfl)))
          refine D_stI (v := e3 9) (x := 5 + ys.getD 0 0) (i := 0) inf3 rfl ?_ ?_ own3 h05 (fun hF => absurd hF (by decide)) ?_
          · first | rfl | (first | rw [ev_tmp] | rw [ev_const] | skip) <;> simp only [upd_apply, Nat.reduceEqDiff, if_true, if_false, reduceIte, lit_iv, lit_w8, K5_0]
          · first | rfl | (first | rw [ev_tmp] | rw [ev_const] | skip) <;> simp only [upd_apply, Nat.reduceEqDiff, if_true, if_false, reduceIte, lit_iv, lit_w8, K5_0]
          intro h4 own4 wt4 n4
          have e51 : (fiveL ys 0).set 0 (5 + ys.getD 0 0) = fiveL ys 1 := by rw [fiveL_zero, fiveL_one]; rfl
          rw [e51] at own4
          repeat (first
            | refine D_nil ?_ | refine I_true ?_ | refine I_false ?_
            | ((first | apply D_op | apply D_op0)
               · ((repeat (first | simp (maxDischargeDepth := 9) only [RA, Nat.reduceEqDiff, Nat.reduceLT, Nat.reduceLeDiff, Nat.reduceAdd, Nat.reduceSub, Nat.reduceMul, Nat.reduceDiv, Nat.reduceMod, Nat.reducePow, Nat.reduceBEq, Nat.reduceGT, reduceIte, T1, T3, T4, T111, K5_0] | simp (disch := first | assumption | omega) only [RV, K5_0])) <;> rfl)
               · (intro hF; first | exact chk_pure rfl | exact chk_alloc rfl | exact chk_read rfl | exact chk_iso iso104 | exact chk_call iso104 (fun _ _ _ => rfl) | exact chk_iso iso105 | exact chk_call iso105 (fun _ _ _ => rfl) | (exfalso; revert hF; decide) | ((first | refine chk_load ?_ | refine chk_slice ?_ | refine chk_convert ?_ | refine chk_store ?_ | refine chk_call (by kernel_rfl) ?_); simp only [eq_self, ev_tmp, upd_apply, rowsOfV, List.mem_cons, List.not_mem_nil, or_false, forall_eq, forall_eq_or_imp, obj_put, obj_new, nx_new, nx_put, Nat.reduceEqDiff, if_true, if_false, reduceIte, implies_true, and_self, and_true, true_or, or_true, T1, T3, T4, T111, K5_0])))
            | (apply D_grd
               · (simp only [yieldedA, RY, Nat.reduceEqDiff, reduceIte] <;> rfl)))
          repeat (first
            | refine R_seq ?_ | refine R_region ?_ | refine R_nil ?_ | refine Q_seq ?_ | refine Q_norm ?_ | refine Q_seqr ?_ | refine Q_seqx ?_ | refine Q_bl ?_ | refine Q_blr ?_ | refine Q_blx ?_ | refine Q_blo rfl ?_ | refine R_block ?_ | refine R_skip ?_ | refine R_exit ?_ | refine R_ret ?_ | refine I_true ?_ | refine I_false ?_ | refine N_exit ?_ | refine N_ret ?_
            | ((first | apply R_op | apply R_op0)
               · ((repeat (first | simp (maxDischargeDepth := 9) only [RA, Nat.reduceEqDiff, Nat.reduceLT, Nat.reduceLeDiff, Nat.reduceAdd, Nat.reduceSub, Nat.reduceMul, Nat.reduceDiv, Nat.reduceMod, Nat.reducePow, Nat.reduceBEq, Nat.reduceGT, reduceIte, j10, T1, T3, T4, T111, K5_0] | simp (disch := first | assumption | omega) only [RV, j10, K5_0])) <;> rfl))
            | (apply R_cond
               · (simp only [RE, Nat.reduceEqDiff, Nat.reduceLT, Nat.reduceLeDiff, Nat.reduceBEq, reduceIte] <;> rfl))
            | (apply R_grd
               · (simp only [yieldedA, RY, Nat.reduceEqDiff, reduceIte] <;> rfl)))
          refine ⟨rfl, by first | rfl | simp only [List.map_cons, List.map_nil, RH, Nat.reduceAdd, Nat.reduceEqDiff, reduceIte, T1, T3, T4, T111, K5_0], by first | rfl | simp only [List.map_cons, List.map_nil, RH, Nat.reduceAdd, Nat.reduceEqDiff, reduceIte, T1, T3, T4, T111, K5_0], by first | (simp only [RH, T1, T3, T4, T111, K5_0]; done) | ((try simp only [RH, T1, T3, T4, T111, K5_0]); omega), ?_⟩
          exact ⟨by (try simp only [List.map_cons, List.map_nil, RH, Nat.reduceAdd, Nat.reduceEqDiff, reduceIte, ev_tmp, ev_const, lit_iv, lit_w8, lit_w32, lit_w64, envOf0, envOf1, envOf2, envOf3, envOf4, envOf5, T1, T3, T4, T111, K5_0]), by (try simp only [List.map_cons, List.map_nil, RH, Nat.reduceAdd, Nat.reduceEqDiff, reduceIte, ev_tmp, ev_const, lit_iv, lit_w8, lit_w32, lit_w64, envOf0, envOf1, envOf2, envOf3, envOf4, envOf5, T1, T3, T4, T111, K5_0]); exact own4, F3.trans (wt4.owFr n3 own3)⟩
        · have hsc := fiveL_succ ys (k := k) (by omega)
          rw [if_neg (by omega)] at hlr
          repeat (first
            | refine R_seq ?_ | refine R_region ?_ | refine R_nil ?_ | refine Q_seq ?_ | refine Q_norm ?_ | refine Q_seqr ?_ | refine Q_seqx ?_ | refine Q_bl ?_ | refine Q_blr ?_ | refine Q_blx ?_ | refine Q_blo rfl ?_ | refine R_block ?_ | refine R_skip ?_ | refine R_exit ?_ | refine R_ret ?_ | refine I_true ?_ | refine I_false ?_ | refine N_exit ?_ | refine N_ret ?_
            | ((first | apply R_op | apply R_op0)
               · ((repeat (first | simp (maxDischargeDepth := 9) only [RA, Nat.reduceEqDiff, Nat.reduceLT, Nat.reduceLeDiff, Nat.reduceAdd, Nat.reduceSub, Nat.reduceMul, Nat.reduceDiv, Nat.reduceMod, Nat.reducePow, Nat.reduceBEq, Nat.reduceGT, reduceIte, j10, hk, h0, hat, bs1_111, T1, T3, T4, T111, K5_0] | simp (disch := first | assumption | omega) only [RV, j10, hk, h0, hat, bs1_111, K5_0])) <;> rfl))
            | (apply R_cond
               · (simp only [RE, Nat.reduceEqDiff, Nat.reduceLT, Nat.reduceLeDiff, Nat.reduceBEq, reduceIte] <;> rfl))
            | (apply R_grd
               · (simp only [yieldedA, RY, Nat.reduceEqDiff, reduceIte] <;> rfl)))
          refine R_appI E111 Try.underlying111 (v := e3 9) (x := ys.getD k 0) (p := h3.nx) (lo := h2.nx) (xs := fiveL ys k) ?_ ?_ own3.new (by simp only [RH]; omega) (by simp only [RH]) (by simp only [RH]; omega) (by omega) ?_
          · first | rfl | (first | rw [ev_tmp] | rw [ev_const] | skip) <;> simp only [upd_apply, Nat.reduceEqDiff, if_true, if_false, reduceIte, lit_iv, lit_w8, K5_0]
          · first | rfl | (first | rw [ev_tmp] | rw [ev_const] | skip) <;> simp only [upd_apply, Nat.reduceEqDiff, if_true, if_false, reduceIte, lit_iv, lit_w8, K5_0]
          intro v4 h4 own4 wt4
          rw [hsc] at own4
          have n4 := wt4.nx
          simp only [RH] at n4
          repeat (first
            | refine R_seq ?_ | refine R_region ?_ | refine R_nil ?_ | refine Q_seq ?_ | refine Q_norm ?_ | refine Q_seqr ?_ | refine Q_seqx ?_ | refine Q_bl ?_ | refine Q_blr ?_ | refine Q_blx ?_ | refine Q_blo rfl ?_ | refine R_block ?_ | refine R_skip ?_ | refine R_exit ?_ | refine R_ret ?_ | refine I_true ?_ | refine I_false ?_ | refine N_exit ?_ | refine N_ret ?_
            | ((first | apply R_op | apply R_op0)
               · ((repeat (first | simp (maxDischargeDepth := 9) only [RA, Nat.reduceEqDiff, Nat.reduceLT, Nat.reduceLeDiff, Nat.reduceAdd, Nat.reduceSub, Nat.reduceMul, Nat.reduceDiv, Nat.reduceMod, Nat.reducePow, Nat.reduceBEq, Nat.reduceGT, reduceIte, j10, T1, T3, T4, T111, K5_0] | simp (disch := first | assumption | omega) only [RV, j10, K5_0])) <;> rfl))
            | (apply R_cond
               · (simp only [RE, Nat.reduceEqDiff, Nat.reduceLT, Nat.reduceLeDiff, Nat.reduceBEq, reduceIte] <;> rfl))
            | (apply R_grd
               · (simp only [yieldedA, RY, Nat.reduceEqDiff, reduceIte] <;> rfl)))
          refine ⟨rfl, by first | rfl | simp only [List.map_cons, List.map_nil, RH, Nat.reduceAdd, Nat.reduceEqDiff, reduceIte, T1, T3, T4, T111, K5_0], by first | rfl | simp only [List.map_cons, List.map_nil, RH, Nat.reduceAdd, Nat.reduceEqDiff, reduceIte, T1, T3, T4, T111, K5_0], by first | (simp only [RH, T1, T3, T4, T111, K5_0]; done) | ((try simp only [RH, T1, T3, T4, T111, K5_0]); omega), ?_⟩
          exact ⟨by (try simp only [List.map_cons, List.map_nil, RH, Nat.reduceAdd, Nat.reduceEqDiff, reduceIte, ev_tmp, ev_const, lit_iv, lit_w8, lit_w32, lit_w64, envOf0, envOf1, envOf2, envOf3, envOf4, envOf5, T1, T3, T4, T111, K5_0]), by (try simp only [List.map_cons, List.map_nil, RH, Nat.reduceAdd, Nat.reduceEqDiff, reduceIte, ev_tmp, ev_const, lit_iv, lit_w8, lit_w32, lit_w64, envOf0, envOf1, envOf2, envOf3, envOf4, envOf5, T1, T3, T4, T111, K5_0]); exact own4, F3.trans ((Fr.new (.refl h2.nx h3) n3 .rw 1 _).trans (wt4.owFr (by simp only [RH]; omega) own3.new))⟩
      · intro e3 h3 hK hO hN ⟨j10, own3, F3⟩
        simp only [List.map_cons, List.map_nil, List.cons.injEq, and_true, RH, Nat.reduceAdd, Nat.reduceEqDiff, reduceIte, envOf0, envOf1, envOf2, envOf3, envOf4, envOf5, K1_0] at hK
        have K5_0 := hK
        try simp only [RH] at hN
        have n3 := F3.1
        have hl17 : (fiveL ys 17).length = 17 := by rw [fiveL_length]; rfl
        have hle260 := fiveL_le hy 17
        have hM : ∀ x ∈ fiveL ys 17, x ≤ 1073741824 := fun x hx' => by have := hle260 x hx'; omega
        have hcv := carryL_V (fiveL ys 17) 0
        have hcb := carryL_lt (fiveL ys 17) 0
        have hcl := carryL_length hM (c := 0) (by omega)
        have hcg := carryL_ge (fiveL ys 17) 0
        have h17 : leV ((List.range 17).map fun i => ys.getD i 0) = leV ys := leV_range hy 17 (by rw [p17]; unfold Q130 at hV; omega)
        rw [Nat.add_zero, fiveL_V, h17] at hcv
        repeat (first
          | refine R_seq ?_ | refine R_region ?_ | refine R_nil ?_ | refine Q_seq ?_ | refine Q_norm ?_ | refine Q_seqr ?_ | refine Q_seqx ?_ | refine Q_bl ?_ | refine Q_blr ?_ | refine Q_blx ?_ | refine Q_blo rfl ?_ | refine R_block ?_ | refine R_skip ?_ | refine R_exit ?_ | refine R_ret ?_ | refine I_true ?_ | refine I_false ?_ | refine N_exit ?_ | refine N_ret ?_
          | ((first | apply R_op | apply R_op0)
             · ((repeat (first | simp (maxDischargeDepth := 9) only [RA, Nat.reduceEqDiff, Nat.reduceLT, Nat.reduceLeDiff, Nat.reduceAdd, Nat.reduceSub, Nat.reduceMul, Nat.reduceDiv, Nat.reduceMod, Nat.reducePow, Nat.reduceBEq, Nat.reduceGT, reduceIte, j10, T1, T3, T4, T111, K5_0] | simp (disch := first | assumption | omega) only [RV, j10, K5_0])) <;> rfl))
          | (apply R_cond
             · (simp only [RE, Nat.reduceEqDiff, Nat.reduceLT, Nat.reduceLeDiff, Nat.reduceBEq, reduceIte] <;> rfl))
          | (apply R_grd
             · (simp only [yieldedA, RY, Nat.reduceEqDiff, reduceIte] <;> rfl)))
        refine R_fn ?_ (carry105 q h3 (e3 9) (fiveL ys 17) own3.sl hM (by omega)) ?_
        · rfl
        intro v4 h4 ⟨own4, F4⟩
        generalize carryL (fiveL ys 17) 0 = fs at own4 hcv hcb hcl hcg
        have n4 := F4.1
        have hfl : 16 < fs.length := by omega
        have hat := at104 q h4 v4 fs 16 own4.sl
        have hdg := digit_get hcb hfl
        have hld := iv_ld Try.underlying3 inf3 own4.sl fr_refl hfl
        have hia := S111ia own4.sl hfl
        rw [hcv, p16] at hdg
        have F14 := F1.trans ((F3.trans (F4.le (by omega))).le n1)
        by_cases h4 : 4 ≤ fs.getD 16 0
        · have hge : ¬ leV ys + 5 < Q130 := by unfold Q130; omega
          rw [if_neg hge] at hmod
          repeat (first
            | refine R_seq ?_ | refine R_region ?_ | refine R_nil ?_ | refine Q_seq ?_ | refine Q_norm ?_ | refine Q_seqr ?_ | refine Q_seqx ?_ | refine Q_bl ?_ | refine Q_blr ?_ | refine Q_blx ?_ | refine Q_blo rfl ?_ | refine R_block ?_ | refine R_skip ?_ | refine R_exit ?_ | refine R_ret ?_ | refine I_true ?_ | refine I_false ?_ | refine N_exit ?_ | refine N_ret ?_
            | ((first | apply R_op | apply R_op0)
               · ((repeat (first | simp (maxDischargeDepth := 9) only [RA, Nat.reduceEqDiff, Nat.reduceLT, Nat.reduceLeDiff, Nat.reduceAdd, Nat.reduceSub, Nat.reduceMul, Nat.reduceDiv, Nat.reduceMod, Nat.reducePow, Nat.reduceBEq, Nat.reduceGT, reduceIte, hat, h4, hia, hld, T1, T3, T4, T111, K5_0] | simp (disch := first | assumption | omega) only [RV, hat, h4, hia, hld, K5_0])) <;> rfl))
            | (apply R_cond
               · (simp only [RE, Nat.reduceEqDiff, Nat.reduceLT, Nat.reduceLeDiff, Nat.reduceBEq, reduceIte] <;> rfl))
            | (apply R_grd
               · (simp only [yieldedA, RY, Nat.reduceEqDiff, reduceIte] <;> rfl)))
          refine R_stI (v := v4) (x := fs.getD 16 0 - 4) (i := 16) inf3 rfl ?_ ?_ own4 hfl ?_
          · first | rfl | (first | rw [ev_tmp] | rw [ev_const] | skip) <;> simp only [upd_apply, Nat.reduceEqDiff, if_true, if_false, reduceIte, lit_iv, lit_w8, K5_0]
          · first | rfl | (first | rw [ev_tmp] | rw [ev_const] | skip) <;> simp only [upd_apply, Nat.reduceEqDiff, if_true, if_false, reduceIte, lit_iv, lit_w8, K5_0]
          intro h5 own5 wt5 n5
          repeat (first
            | refine R_seq ?_ | refine R_region ?_ | refine R_nil ?_ | refine Q_seq ?_ | refine Q_norm ?_ | refine Q_seqr ?_ | refine Q_seqx ?_ | refine Q_bl ?_ | refine Q_blr ?_ | refine Q_blx ?_ | refine Q_blo rfl ?_ | refine R_block ?_ | refine R_skip ?_ | refine R_exit ?_ | refine R_ret ?_ | refine I_true ?_ | refine I_false ?_ | refine N_exit ?_ | refine N_ret ?_
            | ((first | apply R_op | apply R_op0)
               · ((repeat (first | simp (maxDischargeDepth := 9) only [RA, Nat.reduceEqDiff, Nat.reduceLT, Nat.reduceLeDiff, Nat.reduceAdd, Nat.reduceSub, Nat.reduceMul, Nat.reduceDiv, Nat.reduceMod, Nat.reducePow, Nat.reduceBEq, Nat.reduceGT, reduceIte, T1, T3, T4, T111, K5_0] | simp (disch := first | assumption | omega) only [RV, K5_0])) <;> rfl))
            | (apply R_cond
               · (simp only [RE, Nat.reduceEqDiff, Nat.reduceLT, Nat.reduceLeDiff, Nat.reduceBEq, reduceIte] <;> rfl))
            | (apply R_grd
               · (simp only [yieldedA, RY, Nat.reduceEqDiff, reduceIte] <;> rfl)))
          refine ⟨.inr rfl, _, rfl, ⟨fs.set 16 (fs.getD 16 0 - 4), ?_, ?_, ?_, ?_⟩, F14.trans ((wt5.owFr n4 own4).le (by omega))⟩
          · (try simp only [List.map_cons, List.map_nil, RH, Nat.reduceAdd, Nat.reduceEqDiff, reduceIte, ev_tmp, ev_const, lit_iv, lit_w8, lit_w32, lit_w64, envOf0, envOf1, envOf2, envOf3, envOf4, envOf5, packR, T1, T3, T4, T111, K5_0])
            exact own5.sl
          · intro y hy'
            rcases List.mem_or_eq_of_mem_set hy' with h9 | h9
            · exact hcb y h9
            · have := hcb (fs.getD 16 0) (by rw [List.getD_eq_getElem?_getD, List.getElem?_eq_getElem hfl]; exact List.getElem_mem hfl)
              omega
          · rw [List.length_set]; omega
          · have hs := leV_set (fs.set 16 (fs.getD 16 0 - 4)) 16 4 (by rw [List.length_set]; exact hfl)
            have hg2 : (fs.set 16 (fs.getD 16 0 - 4)).getD 16 0 = fs.getD 16 0 - 4 := by
              rw [List.getD_eq_getElem?_getD, List.getElem?_set_self hfl]; rfl
            have hself : fs.set 16 (fs.getD 16 0) = fs := by
              rw [List.getD_eq_getElem?_getD, List.getElem?_eq_getElem hfl]
              exact List.set_getElem_self hfl
            rw [hg2, List.set_set, Nat.sub_add_cancel h4, hself, hcv, p16] at hs
            rw [← hP2, hmod]
            unfold Q130 at *
            omega
        · have hlt : leV ys + 5 < Q130 := by
            unfold Q130 at *
            omega
          rw [if_pos hlt] at hmod
          repeat (first
            | refine R_seq ?_ | refine R_region ?_ | refine R_nil ?_ | refine Q_seq ?_ | refine Q_norm ?_ | refine Q_seqr ?_ | refine Q_seqx ?_ | refine Q_bl ?_ | refine Q_blr ?_ | refine Q_blx ?_ | refine Q_blo rfl ?_ | refine R_block ?_ | refine R_skip ?_ | refine R_exit ?_ | refine R_ret ?_ | refine I_true ?_ | refine I_false ?_ | refine N_exit ?_ | refine N_ret ?_
            | ((first | apply R_op | apply R_op0)
               · ((repeat (first | simp (maxDischargeDepth := 9) only [RA, Nat.reduceEqDiff, Nat.reduceLT, Nat.reduceLeDiff, Nat.reduceAdd, Nat.reduceSub, Nat.reduceMul, Nat.reduceDiv, Nat.reduceMod, Nat.reducePow, Nat.reduceBEq, Nat.reduceGT, reduceIte, hat, h4, T1, T3, T4, T111, K5_0] | simp (disch := first | assumption | omega) only [RV, hat, h4, K5_0])) <;> rfl))
            | (apply R_cond
               · (simp only [RE, Nat.reduceEqDiff, Nat.reduceLT, Nat.reduceLeDiff, Nat.reduceBEq, reduceIte] <;> rfl))
            | (apply R_grd
               · (simp only [yieldedA, RY, Nat.reduceEqDiff, reduceIte] <;> rfl)))
          refine ⟨.inr rfl, _, rfl, ⟨ys, ?_, hy, hyl, by rw [← hmod, hP2]⟩, F14⟩
          (try simp only [List.map_cons, List.map_nil, RH, Nat.reduceAdd, Nat.reduceEqDiff, reduceIte, ev_tmp, ev_const, lit_iv, lit_w8, lit_w32, lit_w64, envOf0, envOf1, envOf2, envOf3, envOf4, envOf5, packR, T1, T3, T4, T111, K5_0])
          exact (b1.fr0 F3).fr0 F4
end Go.Proofs.Ytfehhihllenjiaa
